import Derived.Test.YtdaeiicdpfghlaaDoorSx0
namespace Go.Proofs.YtdaeiicdpfghlaaDoor.R
open Go.RowKit Go.Proofs.YtdaeiicdpfghlaaDoorW.PrintWords Go.Proofs.YtdaeiicdpfghlaaDoorW.PrintLast Go.Proofs.YtdaeiicdpfghlaaDoorW.PrintMore
attribute [local go_sem] max2_int min2_int max_two min_two max_three min_three max_four min_four   -- for this text's walks alone
set_option linter.unusedVariables false
set_option linter.unusedSimpArgs false

/-- A state of type 56 at block g of W; what its slices lead to came in by w0. -/
def IsS56 (w0 W : World) (g : Nat) (f0 : Int) : Prop := W.heap[g]? = some (.cells #[.int .i64 f0] 56 (0, 0)) ∧ w0.heap.size ≤ g
theorem IsS56.grown {w0 W : World} {g : Nat} {f0 : Int} {W1 : World} {row : Option Nat} (h : IsS56 w0 W g f0) (hw : W.grownBy W1 row) (hne : some g ≠ row) : IsS56 w0 W1 g f0 := by
 obtain ⟨hb, hg⟩ := h
 exact ⟨blk_grown hb hw hne, hg⟩
theorem IsS56.own_neN {w0 W : World} {g : Nat} {f0 : Int} {α : Type} {d : Kd α} {e : Nat} {base : Nat} {ok : Nat → Prop} {v : Value} {xs : List α} (h : IsS56 w0 W g f0) (ho : Kd.N d e W base ok v xs) (ht : e ≠ 56) : some g ≠ v.ownBlock := by
 obtain ⟨hb, hg⟩ := h
 exact Kd.N_ne ho hb ht
theorem IsS56.fresh {w0 W : World} {g : Nat} {f0 : Int} (h : IsS56 w0 W g f0) : ∀ k, W.heap.size ≤ k → k ≠ g := by
 obtain ⟨hb, hg⟩ := h
 exact Kd.freshB hb
theorem IsS56.kept {w0 W : World} {g : Nat} {f0 : Int} {W1 : World} {S : Nat → Prop} (h : IsS56 w0 W g f0) (hk : Kept W W1 S) (hne : ¬ S g) : IsS56 w0 W1 g f0 := by
 obtain ⟨hb, hg⟩ := h
 exact ⟨blk_kept hb hk hne, hg⟩
theorem IsS56.below {w0 W : World} {g : Nat} {f0 : Int} {W1 : World} (h : IsS56 w0 W g f0) (hw : Below W.heap.size W W1) : IsS56 w0 W1 g f0 := h.grown (grown_of_below hw none) (by simp)
theorem IsS56.alloc {w0 W : World} {g : Nat} {f0 : Int} (h : IsS56 w0 W g f0) (o : Obj) : IsS56 w0 (W.alloc o) g f0 := h.below (below_alloc (Below.refl _ _) o)
theorem IsS56.drewN {w0 W : World} {g : Nat} {f0 : Int} (h : IsS56 w0 W g f0) (m : Nat) : IsS56 w0 (W.drewN m) g f0 := h
theorem IsS56.drew {w0 W : World} {g : Nat} {f0 : Int} (h : IsS56 w0 W g f0) : IsS56 w0 W.drew g f0 := h
theorem IsS56.at_ {w0 W : World} {g : Nat} {f0 : Int} {w' : World} {m : Nat} (hq : W.drewN m = w') (h : IsS56 w0 W g f0) : IsS56 w0 w' g f0 := by subst hq; exact IsS56.drewN h m
theorem IsS56.apart {w0 W : World} {g : Nat} {f0 : Int} {α : Type} {d : Kd α} {e : Nat} {base : Nat} {ok : Nat → Prop} {v : Value} {xs : List α} (h : IsS56 w0 W g f0) (ho : d.R e W base ok v xs) (ht : ∀ q, q ∈ e :: d.E → q ≠ 56) : d.R e W base (fun k => ok k ∧ k ≠ g) v xs := by
 obtain ⟨hb, hg⟩ := h
 exact Kd.R_types ho hb ht
theorem IsS56.own_ne {w0 W : World} {g : Nat} {f0 : Int} {α : Type} {d : Kd α} {e : Nat} {base : Nat} {ok : Nat → Prop} {v : Value} {xs : List α} (h : IsS56 w0 W g f0) (ho : d.R e W base ok v xs) (ht : e ≠ 56) : some g ≠ v.ownBlock := by
 obtain ⟨hb, hg⟩ := h
 exact Kd.R_ne ho hb ht
theorem IsS56.apartQ {w0 W : World} {g : Nat} {f0 : Int} {α : Type} {d : Kd α} {e : Nat} {base : Nat} {ok : Nat → Prop} {v : Value} {xs : List α} (h : IsS56 w0 W g f0) (ho : d.Q e W base ok v xs) (ht : ∀ q, q ∈ e :: d.E → q ≠ 56) : d.Q e W base (fun k => ok k ∧ k ≠ g) v xs := by
 obtain ⟨hb, hg⟩ := h
 exact Kd.Q_types ho hb ht
theorem IsS56.own_neQ {w0 W : World} {g : Nat} {f0 : Int} {α : Type} {d : Kd α} {e : Nat} {base : Nat} {ok : Nat → Prop} {v : Value} {xs : List α} (h : IsS56 w0 W g f0) (ho : d.Q e W base ok v xs) (ht : e ≠ 56) : some g ≠ v.ownBlock := by
 obtain ⟨hb, hg⟩ := h
 exact Kd.Q_ne ho hb ht
theorem IsS56.apartS {w0 W : World} {g : Nat} {f0 : Int} {α : Type} {d : Kd α} {e : Nat} {base : Nat} {ok : Nat → Prop} {v : Value} {xs : List α} (h : IsS56 w0 W g f0) (ho : d.S e W base ok v xs) (ht : ∀ q, q ∈ e :: d.E → q ≠ 56) : d.S e W base (fun k => ok k ∧ k ≠ g) v xs := by
 obtain ⟨hb, hg⟩ := h
 exact Kd.S_types ho hb ht
theorem IsS56.own_neS {w0 W : World} {g : Nat} {f0 : Int} {α : Type} {d : Kd α} {e : Nat} {base : Nat} {ok : Nat → Prop} {v : Value} {xs : List α} (h : IsS56 w0 W g f0) (ho : d.S e W base ok v xs) (ht : e ≠ 56) : some g ≠ v.ownBlock := by
 obtain ⟨hb, hg⟩ := h
 exact Kd.S_ne ho hb ht
theorem IsS56.lt {w0 W : World} {g : Nat} {f0 : Int} (h : IsS56 w0 W g f0) : g < W.heap.size := by
 obtain ⟨hb, hg⟩ := h
 exact blk_lt hb
theorem IsS56.ge {w0 W : World} {g : Nat} {f0 : Int} (h : IsS56 w0 W g f0) : w0.heap.size ≤ g := by
 obtain ⟨hb, hg⟩ := h
 exact hg
theorem IsS56.ne_blk {w0 W : World} {g : Nat} {f0 : Int} {a : Nat} {cs : Array Value} {t : TypeId} {fr : Nat × Nat} (h : IsS56 w0 W g f0) (hb2 : W.heap[a]? = some (.cells cs t fr)) (ht : t ≠ 56) : g ≠ a := by
 obtain ⟨hb, hg⟩ := h
 rintro rfl
 rw [hb] at hb2
 injection hb2 with hb2
 injection hb2 with _ ht2
 exact ht ht2.symm
theorem IsS56.far {w0 W : World} {g : Nat} {f0 : Int} {p : Addr} (h : IsS56 w0 W g f0) (hne : g ≠ p.block) (u : Value) : IsS56 w0 (W.setCell p u) g f0 := by
 obtain ⟨hb, hg⟩ := h
 exact ⟨blk_far hb hne u, hg⟩
theorem cellS56_0 {W : World} {g : Nat} {f0 : Int} (h : W.heap[g]? = some (.cells #[.int .i64 f0] 56 (0, 0))) : W.cell? ⟨g, 0, none⟩ = some (.int .i64 f0) := bc0 h
theorem IsS56.set_0 {w0 W : World} {g : Nat} {f0 : Int} (h : IsS56 w0 W g f0) (x : Int) : IsS56 w0 (W.setCell ⟨g, 0, none⟩ (.int .i64 x)) g x := by
 obtain ⟨hb, hg⟩ := h
 exact ⟨by simpa using blk_set hb 0 (.int .i64 x), hg⟩
theorem IsS56.new (w0 W : World) (f0 : Int) (hB : Below w0.heap.size w0 W) : IsS56 w0 (W.alloc (.cells #[.int .i64 f0] 56)) W.heap.size f0 := ⟨by simpa using heap_alloc_new W _, hB.size⟩

mutual
def treenaillaw05_deep.j0 : Nat → Int → Bool → Int → Int → Int → List (S35) → Option (Bool × Int)
 | 0, _, _, _, _, _, _ => none
 | k + 1, x2, x31, x2000, x102000, x102001, x102002 => if x31 = true then (some (true, x2000)) else (treenaillaw05_deep.l0 k x2 x102002 (x102002.length : Int) 0 x2000)
def treenaillaw05_deep.l0 : Nat → Int → List (S35) → Int → Int → Int → Option (Bool × Int)
 | 0, _, _, _, _, _ => none
 | k + 1, x2, x33, x34, x35, x2000 => if x35 < x34 then (if 0 ≤ x35 then (if x35 < (x33.length : Int) then ((treenaillaw05_deep.f k ((rd_T35 x33 x35).f0) ((rd_T35 x33 x35).f1) ((rd_T35 x33 x35).f2) x2000 (wrap64 (x2 + 1))).bind fun bt104 => (if bt104.1 = true then (some (true, bt104.2)) else (treenaillaw05_deep.l0 k x2 x33 x34 (wrap64 (x35 + 1)) bt104.2))) else (none)) else (none)) else (some (false, x2000))
def treenaillaw05_deep.f : Nat → Int → Int → List (S35) → Int → Int → Option (Bool × Int)
 | 0, _, _, _, _, _ => none
 | k + 1, a0_0, a0_1, l0_2, s1_0, a2 => if (wrap64 (s1_0 - 1)) < 0 then (treenaillaw05_deep.j0 k a2 true (wrap64 (s1_0 - 1)) a0_0 a0_1 l0_2) else (if a2 > 60 then (treenaillaw05_deep.j0 k a2 true (wrap64 (s1_0 - 1)) a0_0 a0_1 l0_2) else (treenaillaw05_deep.j0 k a2 (decide ((l0_2.length : Int) > 50)) (wrap64 (s1_0 - 1)) a0_0 a0_1 l0_2))
end
set_option maxRecDepth 100000 in
theorem treenaillaw05_deep.mono_l : ∀ k, (∀ y0 y1 y2 y3 y4, LeO (treenaillaw05_deep.f k y0 y1 y2 y3 y4) (treenaillaw05_deep.f (k + 1) y0 y1 y2 y3 y4)) ∧ (∀ y0 y1 y2 y3 y4 y5, LeO (treenaillaw05_deep.j0 k y0 y1 y2 y3 y4 y5) (treenaillaw05_deep.j0 (k + 1) y0 y1 y2 y3 y4 y5)) ∧ (∀ y0 y1 y2 y3 y4, LeO (treenaillaw05_deep.l0 k y0 y1 y2 y3 y4) (treenaillaw05_deep.l0 (k + 1) y0 y1 y2 y3 y4))
 | 0 => ⟨fun _ _ _ _ _ r h => by first | (cases h; done) | simp [treenaillaw05_deep.f] at h, fun _ _ _ _ _ _ r h => by first | (cases h; done) | simp [treenaillaw05_deep.j0] at h, fun _ _ _ _ _ r h => by first | (cases h; done) | simp [treenaillaw05_deep.l0] at h⟩
 | k + 1 => by
  obtain ⟨ih0, ih1, ih2⟩ := treenaillaw05_deep.mono_l k
  refine ⟨?_, ?_, ?_⟩
  all_goals intros
  all_goals first | unfold treenaillaw05_deep.f | unfold treenaillaw05_deep.j0 | unfold treenaillaw05_deep.l0
  all_goals repeat' first
  | (with_reducible exact ih0 _ _ _ _ _)
  | (with_reducible exact ih1 _ _ _ _ _ _)
  | (with_reducible exact ih2 _ _ _ _ _)
  | (with_reducible exact LeO.refl _)
  | (with_reducible exact LeO.none _)
  | (with_reducible refine LeO.ite ?_ ?_)
  | (with_reducible refine LeO.bind ?_ (fun _ => ?_))
  | refine LeO.ite ?_ ?_
  | refine LeO.bind ?_ (fun _ => ?_)
set_option maxRecDepth 100000 in
theorem treenaillaw05_deep.mono : ∀ a0 a1 a2 a3 a4 k, LeO (treenaillaw05_deep.f k a0 a1 a2 a3 a4) (treenaillaw05_deep.f (k + 1) a0 a1 a2 a3 a4) := by
 intro a0 a1 a2 a3 a4 k
 obtain ⟨ih0, ih1, ih2⟩ := treenaillaw05_deep.mono_l k
 exact ih0 a0 a1 a2 a3 a4
set_option maxHeartbeats 8000000 in
set_option maxRecDepth 100000 in
theorem treenaillaw05_deep.calls (k : Nat) : ∀ (a0_0 : Int) (a0_1 : Int) (A0_2 : Option Addr) (c0_2 : Nat) (l0_2 : List (S35)) (g : Nat) (s1_0 : Int) (a2 : Int) (r1 : Bool) (r2 : Int) (w0 w : World) (hI : IsS56 w0 w g s1_0) (hB : Below w0.heap.size w0 w) (hr0_2 : ∀ W_, KeepBut w W_ g none → Kd.C k35 W_ A0_2 l0_2.length l0_2) (hc0_2 : l0_2.length ≤ c0_2) (h : treenaillaw05_deep.f k a0_0 a0_1 l0_2 s1_0 a2 = some (r1, r2)),
  Calls Tryd.prog 27 #[.agg #[.int .i64 a0_0, .int .i64 a0_1, .slice A0_2 l0_2.length c0_2], .pointer (some ⟨g, 0, none⟩), .int .i64 a2] w fun e w' => e = .returned (.bool r1) ∧ IsS56 w0 w' g r2 ∧ Below w0.heap.size w0 w' ∧ KeepBut w w' g none := by
 induction k using Nat.strongRecOn with
 | _ k ih =>
 intro a0_0 a0_1 A0_2 c0_2 l0_2 g s1_0 a2 r1 r2 w0 w hI hB hr0_2 hc0_2 h
 cases k with
 | zero => exact absurd h (by first | (intro h_; cases h_; done) | simp [treenaillaw05_deep.f])
 | succ k =>
 simp only [treenaillaw05_deep.f] at h
 have hu35 := Tryd.underlying35
 have HR0_2 := zm hr0_2
 have HC0_2 := zm hc0_2
 clear hr0_2 hc0_2
 have HI1 := zm hI
 have HK := zm (KeepBut.refl w g none)
 have HL := zm hB.size
 clear hI
 have HW0 := zm hB.size
 have HB := zm hB
 clear hB
 have H : (if (wrap64 (s1_0 - 1)) < 0 then (treenaillaw05_deep.j0 k a2 true (wrap64 (s1_0 - 1)) a0_0 a0_1 l0_2) else (if a2 > 60 then (treenaillaw05_deep.j0 k a2 true (wrap64 (s1_0 - 1)) a0_0 a0_1 l0_2) else (treenaillaw05_deep.j0 k a2 (decide ((l0_2.length : Int) > 50)) (wrap64 (s1_0 - 1)) a0_0 a0_1 l0_2))) = some (r1, r2) := h
 clear h
 have HC4 := zm H
 clear H
 go_enter Tryd.func27, Tryd.ntmps27
 go_upto_region 2 with (first | ((with_reducible refine gate_dst (N := 3) rfl ?_); (try (refine gate_guard (by rfl) ?_; dsimp only)); refine box_event ?hg (N := 3) ?hd (cs := #[.int .i64 a0_0, .int .i64 a0_1, .slice A0_2 l0_2.length c0_2]) (t := 35) ?hr ?_; (case hd => rfl); (case hg => rfl); (case hr => first | (go_simp; done) | (go_simp; rfl)); intro gb101 hg w5 hbox hb; replace HB := zm (below_step (by (with_reducible repeat first | apply bA | apply bN | apply bD | refine bS ?_ (IsS56.ge HI1.out)); exact HB.out) hb); have BK101 := zm (hbox); have GW101 := zm ((by rw [hg]; exact (keep_size (w := w) (g := g) (row := none) (by repeat (first | (with_reducible first | exact HK.out | apply KeepBut.set_ | apply keep_drewN | apply keep_drew | apply keep_alloc) | exact HK.out))) : w.heap.size ≤ gb101)); have GE101 := zm ((Nat.le_trans HW0.out (by rw [hg]; exact (keep_size (w := w) (g := g) (row := none) (by repeat (first | (with_reducible first | exact HK.out | apply KeepBut.set_ | apply keep_drewN | apply keep_drew | apply keep_alloc) | exact HK.out))) : w.heap.size ≤ gb101) : w0.heap.size ≤ gb101)); replace HK := zm (KeepBut.trans (by repeat (first | (with_reducible first | exact HK.out | apply KeepBut.set_ | apply keep_drewN | apply keep_drew | apply keep_alloc) | exact HK.out)) (KeepBut.of_below hb g none) (.inl rfl)); have NB1_101 := zm ((by rw [hg]; exact Nat.ne_of_lt (IsS56.lt (show IsS56 w0 _ g s1_0 from by repeat (first | (with_reducible first | exact HI1.out | apply IsS56.alloc | apply IsS56.drewN | apply IsS56.drew | apply IsS56.set_0) | exact HI1.out))) : g ≠ gb101)); have NB101_1 := zm ((by rw [hg]; exact Nat.ne_of_gt (IsS56.lt (show IsS56 w0 _ g s1_0 from by repeat (first | (with_reducible first | exact HI1.out | apply IsS56.alloc | apply IsS56.drewN | apply IsS56.drew | apply IsS56.set_0) | exact HI1.out))) : gb101 ≠ g)); replace HI1 := zm (IsS56.below (by repeat (first | (with_reducible first | exact HI1.out | apply IsS56.alloc | apply IsS56.drewN | apply IsS56.drew | apply IsS56.set_0) | exact HI1.out)) hb); clear hb hbox hg; obtain ⟨HGz6, hgz6⟩ := HI1.out; have hcz6_0 := cellS56_0 HGz6; have hfz6_0 := bF HGz6 0; clear HGz6 hgz6))
 (try simp only [Act.put, sS, sZ, sC])
 go_cut [31] (fun v31 wc => ∃ (kq : Nat) (x31_3 : Bool), v31 = .bool x31_3 ∧ Aside0 (treenaillaw05_deep.j0 kq a2 x31_3 (wrap64 (s1_0 - 1)) a0_0 a0_1 l0_2 = some (r1, r2)) ∧ Aside0 (kq ≤ k) ∧ Aside0 (wc.heap[gb101]? = some (.cells #[.int .i64 a0_0, .int .i64 a0_1, (.slice A0_2 l0_2.length c0_2)] 35 (0, 0))) ∧ Aside0 (IsS56 w0 wc g (wrap64 (s1_0 - 1))) ∧ Aside0 (KeepBut w wc g none) ∧ Aside0 (Below w0.heap.size w0 wc))
 case first =>
  have H := HC4.out
  clear HC4
  by_cases c7 : (wrap64 (s1_0 - 1)) < 0
  ·rw [if_pos c7] at H
   have c7b0 := decide_eq_true c7
   clear c7
   (first | rw [c7b0] | (simp only [i64_w, i32_w]; rw [c7b0]) | skip)
   have H' := zm H
   clear H
   obtain ⟨HGz8, hgz8⟩ := HI1.out
   have hcz8_0 := cellS56_0 HGz8
   have hfz8_0 := bF HGz8 0
   clear HGz8 hgz8
   go_wp2
   go_meet
   case rel => exact ⟨_, (true), (by first | rfl | (simp; done) | (simp [*]; done)), H', ⟨by first | omega | exact Nat.le_refl _⟩, ⟨by (with_reducible repeat first | apply kN | apply kD | apply kA); refine blk_far ?_ NB101_1.out _; (with_reducible repeat first | apply kN | apply kD | apply kA); exact BK101.out⟩, ⟨by repeat (first | (with_reducible first | exact HI1.out | apply IsS56.alloc | apply IsS56.drewN | apply IsS56.drew | apply IsS56.set_0 | refine IsS56.far ?_ NB1_101.out _) | exact HI1.out)⟩, ⟨by repeat (first | (with_reducible first | exact HK.out | apply KeepBut.set_ | apply keep_drewN | apply keep_drew | apply keep_alloc | refine keep_far ?_ GW101.out _) | exact HK.out)⟩, ⟨by (with_reducible repeat first | apply bA | apply bN | apply bD | refine bS ?_ (IsS56.ge HI1.out) | refine bS ?_ GE101.out); exact HB.out⟩⟩
  rw [if_neg c7] at H
  have c7b0 := decide_eq_false c7
  clear c7
  (first | rw [c7b0] | (simp only [i64_w, i32_w]; rw [c7b0]) | skip)
  by_cases c9 : a2 > 60
  ·rw [if_pos c9] at H
   have c9b0 : decide (60 < a2) = true := decide_eq_true c9
   clear c9
   have H' := zm H
   clear H
   obtain ⟨HGz10, hgz10⟩ := HI1.out
   have hcz10_0 := cellS56_0 HGz10
   have hfz10_0 := bF HGz10 0
   clear HGz10 hgz10
   go_wp2
   go_meet
   case rel => exact ⟨_, (true), (by first | rfl | (simp; done) | (simp [*]; done)), H', ⟨by first | omega | exact Nat.le_refl _⟩, ⟨by (with_reducible repeat first | apply kN | apply kD | apply kA); refine blk_far ?_ NB101_1.out _; (with_reducible repeat first | apply kN | apply kD | apply kA); exact BK101.out⟩, ⟨by repeat (first | (with_reducible first | exact HI1.out | apply IsS56.alloc | apply IsS56.drewN | apply IsS56.drew | apply IsS56.set_0 | refine IsS56.far ?_ NB1_101.out _) | exact HI1.out)⟩, ⟨by repeat (first | (with_reducible first | exact HK.out | apply KeepBut.set_ | apply keep_drewN | apply keep_drew | apply keep_alloc | refine keep_far ?_ GW101.out _) | exact HK.out)⟩, ⟨by (with_reducible repeat first | apply bA | apply bN | apply bD | refine bS ?_ (IsS56.ge HI1.out) | refine bS ?_ GE101.out); exact HB.out⟩⟩
  rw [if_neg c9] at H
  have c9b0 : decide (60 < a2) = false := decide_eq_false c9
  clear c9
  have H' := zm H
  clear H
  obtain ⟨HGz11, hgz11⟩ := HI1.out
  have hcz11_0 := cellS56_0 HGz11
  have hfz11_0 := bF HGz11 0
  clear HGz11 hgz11
  have hnb12 := NB101_1.out
  have hnc12 := NB1_101.out
  have hcz13_0 := bc0 BK101.out
  have hcz13_1 := bc1 BK101.out
  have hcz13_2 := bc2 BK101.out
  have hfz13_0 := bF BK101.out 0
  have hfz13_1 := bF BK101.out 1
  have hfz13_2 := bF BK101.out 2
  go_wp2
  go_meet
  case rel => exact ⟨_, (decide ((l0_2.length : Int) > 50)), (by first | rfl | (simp; done) | (simp [*]; done)), H', ⟨by first | omega | exact Nat.le_refl _⟩, ⟨by (with_reducible repeat first | apply kN | apply kD | apply kA); refine blk_far ?_ NB101_1.out _; (with_reducible repeat first | apply kN | apply kD | apply kA); exact BK101.out⟩, ⟨by repeat (first | (with_reducible first | exact HI1.out | apply IsS56.alloc | apply IsS56.drewN | apply IsS56.drew | apply IsS56.set_0 | refine IsS56.far ?_ NB1_101.out _) | exact HI1.out)⟩, ⟨by repeat (first | (with_reducible first | exact HK.out | apply KeepBut.set_ | apply keep_drewN | apply keep_drew | apply keep_alloc | refine keep_far ?_ GW101.out _) | exact HK.out)⟩, ⟨by (with_reducible repeat first | apply bA | apply bN | apply bD | refine bS ?_ (IsS56.ge HI1.out) | refine bS ?_ GE101.out); exact HB.out⟩⟩
 clear HC4
 try clear c1
 try clear c2
 try clear p2
 try clear p6
 try clear c7
 try clear c7b0
 try clear c9
 try clear c9b0
 try clear c12
 try clear BK101
 obtain ⟨kq, x31_3, rfl, HA, HJ3, BK101, HI1, HK, HB⟩ := hcut
 cases kq with
 | zero => exact absurd HA.out (by first | (intro h_; cases h_; done) | simp [treenaillaw05_deep.j0])
 | succ kj3 =>
  have H := HA.out
  clear HA
  simp only [treenaillaw05_deep.j0] at H
  by_cases c14 : x31_3 = true
  ·subst c14
   rw [if_pos rfl] at H
   simp only [Option.some.injEq, Prod.mk.injEq] at H
   obtain ⟨rfl, rfl⟩ := H
   go_wp2
   go_ret
   exact ⟨xe, by repeat (first | (with_reducible first | exact HI1.out | apply IsS56.alloc | apply IsS56.drewN | apply IsS56.drew | apply IsS56.set_0 | refine IsS56.far ?_ NB1_101.out _) | exact HI1.out), by (with_reducible repeat first | apply bA | apply bN | apply bD | refine bS ?_ (IsS56.ge HI1.out) | refine bS ?_ GE101.out); exact HB.out, by repeat (first | (with_reducible first | exact HK.out | apply KeepBut.set_ | apply keep_drewN | apply keep_drew | apply keep_alloc | refine keep_far ?_ GW101.out _) | exact HK.out)⟩
  replace c14 := Bool.eq_false_iff.mpr c14
  subst c14
  rw [if_neg (show ¬ (false = true) by decide)] at H
  have H' := zm H
  clear H
  have hnb15 := NB101_1.out
  have hnc15 := NB1_101.out
  have hcz16_0 := bc0 BK101.out
  have hcz16_1 := bc1 BK101.out
  have hcz16_2 := bc2 BK101.out
  have hfz16_0 := bF BK101.out 0
  have hfz16_1 := bF BK101.out 1
  have hfz16_2 := bF BK101.out 2
  go_wp2
  go_loopg [35] kj3 (fun kq v35 w' => ∃ (x35_2 : Int) (x2000_2 : Int), v35 = .int .i64 x35_2 ∧ Aside0 (treenaillaw05_deep.l0 kq a2 l0_2 (l0_2.length : Int) x35_2 x2000_2 = some (r1, r2)) ∧ Aside0 (kq ≤ kj3) ∧ Aside0 (w'.heap[gb101]? = some (.cells #[.int .i64 a0_0, .int .i64 a0_1, (.slice A0_2 l0_2.length c0_2)] 35 (0, 0))) ∧ Aside0 (IsS56 w0 w' g x2000_2) ∧ Aside0 (KeepBut w w' g none) ∧ Aside0 (Below w0.heap.size w0 w'))
  case atStart => exact ⟨(0), ((wrap64 (s1_0 - 1))), (by first | rfl | (simp; done) | (simp [*]; done)), H', ⟨Nat.le_refl _⟩, ⟨kx BK101.out⟩, ⟨by repeat (first | (with_reducible first | exact HI1.out | apply IsS56.alloc | apply IsS56.drewN | apply IsS56.drew | apply IsS56.set_0 | refine IsS56.far ?_ NB1_101.out _) | exact HI1.out)⟩, ⟨by repeat (first | (with_reducible first | exact HK.out | apply KeepBut.set_ | apply keep_drewN | apply keep_drew | apply keep_alloc | refine keep_far ?_ GW101.out _) | exact HK.out)⟩, ⟨by (with_reducible repeat first | apply bA | apply bN | apply bD | refine bS ?_ (IsS56.ge HI1.out) | refine bS ?_ GE101.out); exact HB.out⟩⟩
  clear H'
  try clear c1
  try clear c2
  try clear p2
  try clear p6
  try clear c7
  try clear c7b0
  try clear c9
  try clear c9b0
  try clear c12
  try clear c14
  try clear c15
  try clear p2
  try clear p6
  try clear BK101
  obtain ⟨x35_2, x2000_2, rfl, HA, HK2, BK101, HI1, HK, HB⟩ := hrel
  cases gk with
  | zero => exact absurd HA.out (by first | (intro h_; cases h_; done) | simp [treenaillaw05_deep.l0])
  | succ k2 =>
   have H := HA.out
   clear HA
   simp only [treenaillaw05_deep.l0] at H
   by_cases c17 : x35_2 < (l0_2.length : Int)
   ·rw [if_pos c17] at H
    have c17b0 := decide_eq_true c17
    clear c17
    by_cases c18 : 0 ≤ x35_2
    ·rw [if_pos c18] at H
     have c18b0 := decide_eq_true c18
     clear c18
     by_cases c19 : x35_2 < (l0_2.length : Int)
     ·rw [if_pos c19] at H
      have c19b0 := decide_eq_true c19
      clear c19
      replace H := Option.bind_eq_some_iff.mp H
      obtain ⟨⟨t104, t105⟩, A200, H⟩ := H
      replace H : (if t104 = true then (some (true, t105)) else (treenaillaw05_deep.l0 k2 a2 l0_2 (l0_2.length : Int) (wrap64 (x35_2 + 1)) t105)) = some (r1, r2) := H
      have A20 := zm A200
      clear A200
      have HC21 := zm H
      clear H
      have p102 : 0 ≤ (x35_2 : Int) := od
      have q102 : x35_2 < (l0_2.length : Int) := od
      obtain ⟨ad102, A102_2, c102_2, e102, hx102_0, hx102_1, hx102_2, hl102_2, hi102_2⟩ := at_T35 (Kd.C_foot_now HR0_2.out HK.out) x35_2 p102 q102
      cases e102
      have HR102_2 := zm (show ∀ W_, KeepBut w W_ g none → Kd.C k35 W_ A102_2 ((rd_T35 l0_2 x35_2).f2).length ((rd_T35 l0_2 x35_2).f2) from foot_elem (F := fun x_ => x_.f2) 2 (by intro W_ x_ cs_ h_; obtain ⟨A2, c2, rfl, l2, g2⟩ := k35_open h_; exact ⟨_, _, rfl, g2⟩) HR0_2.out HK.out (by decide) x35_2 p102 q102 z35 (by first | (rw [Nat.add_zero]; exact hx102_2) | (rw [add_field _ _ 2 (by omega)]; exact hx102_2)))
      have HC102_2 := zm hl102_2
      clear hi102_2 hl102_2
      replace p102 := eq_true p102
      replace q102 := eq_true q102
      go_upto_if 43 with (first | ((with_reducible refine gate_dst (N := 8) rfl ?_); (try (refine gate_guard (by rfl) ?_; dsimp only)); refine box_event ?hg (N := 8) ?hd (cs := #[.int .i64 0, .int .i64 0, .slice none 0 0]) (t := 35) ?hr ?_; (case hd => rfl); (case hg => rfl); (case hr => first | (go_simp; done) | (go_simp; rfl)); intro gb103 hg w22 hbox hb; replace HB := zm (below_step (by (with_reducible repeat first | apply bA | apply bN | apply bD | refine bS ?_ (IsS56.ge HI1.out) | refine bS ?_ GE101.out); exact HB.out) hb); have BK103 := zm (hbox); have GW103 := zm ((by rw [hg]; exact (keep_size (w := w) (g := g) (row := none) (by repeat (first | (with_reducible first | exact HK.out | apply KeepBut.set_ | apply keep_drewN | apply keep_drew | apply keep_alloc | refine keep_far ?_ GW101.out _) | exact HK.out))) : w.heap.size ≤ gb103)); have GE103 := zm ((Nat.le_trans HW0.out (by rw [hg]; exact (keep_size (w := w) (g := g) (row := none) (by repeat (first | (with_reducible first | exact HK.out | apply KeepBut.set_ | apply keep_drewN | apply keep_drew | apply keep_alloc | refine keep_far ?_ GW101.out _) | exact HK.out))) : w.heap.size ≤ gb103) : w0.heap.size ≤ gb103)); replace HK := zm (KeepBut.trans (by repeat (first | (with_reducible first | exact HK.out | apply KeepBut.set_ | apply keep_drewN | apply keep_drew | apply keep_alloc | refine keep_far ?_ GW101.out _) | exact HK.out)) (KeepBut.of_below hb g none) (.inl rfl)); have NB101_103 := zm ((by rw [hg]; exact Nat.ne_of_lt (blk_lt (g := gb101) (o := .cells #[.int .i64 a0_0, .int .i64 a0_1, .slice (some ad102) l0_2.length c0_2] 35 (0, 0)) (kx BK101.out)) : gb101 ≠ gb103)); have NB103_101 := zm ((by rw [hg]; exact Nat.ne_of_gt (blk_lt (g := gb101) (o := .cells #[.int .i64 a0_0, .int .i64 a0_1, .slice (some ad102) l0_2.length c0_2] 35 (0, 0)) (kx BK101.out)) : gb103 ≠ gb101)); replace BK101 := zm (kB (kx BK101.out) hb); have NB1_103 := zm ((by rw [hg]; exact Nat.ne_of_lt (IsS56.lt (show IsS56 w0 _ g x2000_2 from by repeat (first | (with_reducible first | exact HI1.out | apply IsS56.alloc | apply IsS56.drewN | apply IsS56.drew | apply IsS56.set_0 | refine IsS56.far ?_ NB1_101.out _) | exact HI1.out))) : g ≠ gb103)); have NB103_1 := zm ((by rw [hg]; exact Nat.ne_of_gt (IsS56.lt (show IsS56 w0 _ g x2000_2 from by repeat (first | (with_reducible first | exact HI1.out | apply IsS56.alloc | apply IsS56.drewN | apply IsS56.drew | apply IsS56.set_0 | refine IsS56.far ?_ NB1_101.out _) | exact HI1.out))) : gb103 ≠ g)); replace HI1 := zm (IsS56.below (by repeat (first | (with_reducible first | exact HI1.out | apply IsS56.alloc | apply IsS56.drewN | apply IsS56.drew | apply IsS56.set_0 | refine IsS56.far ?_ NB1_101.out _) | exact HI1.out)) hb); clear hb hbox hg; have hnb23 := NB103_101.out; have hnc23 := NB101_103.out; have hnb24 := NB103_1.out; have hnc24 := NB1_103.out; have hcz25_0 := bc0 BK103.out; have hcz25_1 := bc1 BK103.out; have hcz25_2 := bc2 BK103.out; have hfz25_0 := bF BK103.out 0; have hfz25_1 := bF BK103.out 1; have hfz25_2 := bF BK103.out 2) | ((with_reducible refine gate_callee (f := 27) rfl ?_); refine goesL_ (some 43) rfl rfl Tryd.func27 (by kernel_rfl) rfl #[.agg #[.int .i64 ((rd_T35 l0_2 x35_2).f0), .int .i64 ((rd_T35 l0_2 x35_2).f1), .slice A102_2 ((rd_T35 l0_2 x35_2).f2).length c102_2], .pointer (some ⟨g, 0, none⟩), .int .i64 (wrap64 (a2 + 1))] rfl ag ?_; (with_reducible refine (ih k2 (by have := HJ3.out; have := HK2.out; omega) ((rd_T35 l0_2 x35_2).f0) ((rd_T35 l0_2 x35_2).f1) _ _ ((rd_T35 l0_2 x35_2).f2) g x2000_2 (wrap64 (a2 + 1)) t104 t105 w0 _ ?side1 ?side2 ?side3 ?side4 A20.out).mono ?_); (case side1 => repeat (first | (with_reducible first | exact HI1.out | apply IsS56.alloc | apply IsS56.drewN | apply IsS56.drew | apply IsS56.set_0 | refine IsS56.far ?_ NB1_101.out _ | refine IsS56.far ?_ NB1_103.out _) | exact HI1.out)); (case side2 => (with_reducible repeat first | apply bA | apply bN | apply bD | refine bS ?_ (IsS56.ge HI1.out) | refine bS ?_ GE101.out | refine bS ?_ GE103.out); exact HB.out); (case side3 => exact Kd.C_foot_step HR102_2.out (by repeat (first | (with_reducible first | exact HK.out | apply KeepBut.set_ | apply keep_drewN | apply keep_drew | apply keep_alloc | refine keep_far ?_ GW101.out _ | refine keep_far ?_ GW103.out _) | exact HK.out))); (case side4 => exact HC102_2.out); rintro e w26 ⟨rfl, hi, hb, hk⟩; refine ⟨_, rfl, ?_⟩; replace BK101 := zm (KeepBut.blk hk (g' := gb101) (o := .cells #[.int .i64 a0_0, .int .i64 a0_1, .slice (some ad102) l0_2.length c0_2] 35 (0, 0)) (by (with_reducible repeat first | apply kN | apply kD | apply kA); refine blk_far ?_ NB101_103.out _; (with_reducible repeat first | apply kN | apply kD | apply kA); refine blk_far ?_ NB101_103.out _; (with_reducible repeat first | apply kN | apply kD | apply kA); refine blk_far ?_ NB101_103.out _; (with_reducible repeat first | apply kN | apply kD | apply kA); exact BK101.out) NB101_1.out (by simp)); replace BK103 := zm (KeepBut.blk hk (g' := gb103) (o := .cells #[.int .i64 ((rd_T35 l0_2 x35_2).f0), .int .i64 ((rd_T35 l0_2 x35_2).f1), .slice A102_2 ((rd_T35 l0_2 x35_2).f2).length c102_2] 35 (0, 0)) (by (with_reducible repeat first | apply kN | apply kD | apply kA); refine blk_put (cs := #[.int .i64 ((rd_T35 l0_2 x35_2).f0), .int .i64 ((rd_T35 l0_2 x35_2).f1), .slice none 0 0]) ?_ 2 _ rfl; (with_reducible repeat first | apply kN | apply kD | apply kA); refine blk_put (cs := #[.int .i64 ((rd_T35 l0_2 x35_2).f0), .int .i64 0, .slice none 0 0]) ?_ 1 _ rfl; (with_reducible repeat first | apply kN | apply kD | apply kA); refine blk_put (cs := #[.int .i64 0, .int .i64 0, .slice none 0 0]) ?_ 0 _ rfl; (with_reducible repeat first | apply kN | apply kD | apply kA); exact BK103.out) NB103_1.out (by simp)); replace HK := zm (KeepBut.trans (by repeat (first | (with_reducible first | exact HK.out | apply KeepBut.set_ | apply keep_drewN | apply keep_drew | apply keep_alloc | refine keep_far ?_ GW101.out _ | refine keep_far ?_ GW103.out _) | exact HK.out)) hk (.inl rfl)); replace HB := zm (hb); replace HI1 := zm (hi); (try clear hb); (try clear hb2); (try clear hk); (try clear hi)))
      have H := HC21.out
      clear HC21
      by_cases c27 : t104 = true
      ·subst c27
       rw [if_pos rfl] at H
       simp only [Option.some.injEq, Prod.mk.injEq] at H
       obtain ⟨rfl, rfl⟩ := H
       go_wp2
       go_ret
       exact ⟨xe, by repeat (first | (with_reducible first | exact HI1.out | apply IsS56.alloc | apply IsS56.drewN | apply IsS56.drew | apply IsS56.set_0 | refine IsS56.far ?_ NB1_101.out _ | refine IsS56.far ?_ NB1_103.out _) | exact HI1.out), by (with_reducible repeat first | apply bA | apply bN | apply bD | refine bS ?_ (IsS56.ge HI1.out) | refine bS ?_ GE101.out | refine bS ?_ GE103.out); exact HB.out, by repeat (first | (with_reducible first | exact HK.out | apply KeepBut.set_ | apply keep_drewN | apply keep_drew | apply keep_alloc | refine keep_far ?_ GW101.out _ | refine keep_far ?_ GW103.out _) | exact HK.out)⟩
      replace c27 := Bool.eq_false_iff.mpr c27
      subst c27
      rw [if_neg (show ¬ (false = true) by decide)] at H
      have H' := zm H
      clear H
      go_wp2
      go_roundg k2
      case measure => have := HJ3.out; have := HK2.out; omega
      case rel => exact ⟨(wrap64 (x35_2 + 1)), (t105), (by first | rfl | (simp; done) | (simp [*]; done)), H', ⟨by have := HJ3.out; have := HK2.out; omega⟩, ⟨kx BK101.out⟩, ⟨by repeat (first | (with_reducible first | exact HI1.out | apply IsS56.alloc | apply IsS56.drewN | apply IsS56.drew | apply IsS56.set_0 | refine IsS56.far ?_ NB1_101.out _ | refine IsS56.far ?_ NB1_103.out _) | exact HI1.out)⟩, ⟨by repeat (first | (with_reducible first | exact HK.out | apply KeepBut.set_ | apply keep_drewN | apply keep_drew | apply keep_alloc | refine keep_far ?_ GW101.out _ | refine keep_far ?_ GW103.out _) | exact HK.out)⟩, ⟨by (with_reducible repeat first | apply bA | apply bN | apply bD | refine bS ?_ (IsS56.ge HI1.out) | refine bS ?_ GE101.out | refine bS ?_ GE103.out); exact HB.out⟩⟩
     rw [if_neg c19] at H
     exact absurd H (by simp)
    rw [if_neg c18] at H
    exact absurd H (by simp)
   rw [if_neg c17] at H
   have c17b0 := decide_eq_false c17
   try (have c17b9 := c17b0; rw [hl102_2] at c17b9)
   clear c17
   simp only [Option.some.injEq, Prod.mk.injEq] at H
   obtain ⟨rfl, rfl⟩ := H
   go_wp2
   go_ret
   exact ⟨xe, by repeat (first | (with_reducible first | exact HI1.out | apply IsS56.alloc | apply IsS56.drewN | apply IsS56.drew | apply IsS56.set_0 | refine IsS56.far ?_ NB1_101.out _) | exact HI1.out), by (with_reducible repeat first | apply bA | apply bN | apply bD | refine bS ?_ (IsS56.ge HI1.out) | refine bS ?_ GE101.out); exact HB.out, by repeat (first | (with_reducible first | exact HK.out | apply KeepBut.set_ | apply keep_drewN | apply keep_drew | apply keep_alloc | refine keep_far ?_ GW101.out _) | exact HK.out)⟩

mutual
def treenaillaw05_large.j0 : Nat → Bool → List (S37) → List (S53) → Option (Bool)
 | 0, _, _, _ => none
 | k + 1, x17, x107000, x107001 => if x17 = true then (some true) else (treenaillaw05_large.l0 k x107000 (x107000.length : Int) 0 x107000 x107001 3000)
def treenaillaw05_large.l0 : Nat → List (S37) → Int → Int → List (S37) → List (S53) → Int → Option (Bool)
 | 0, _, _, _, _, _, _ => none
 | k + 1, x21, x22, x23, x107000, x107001, x108000 => if x23 < x22 then (if 0 ≤ x23 then (if x23 < (x21.length : Int) then ((treenaillaw05_deep.f k ((rd_T37 x21 x23).f2.f0) ((rd_T37 x21 x23).f2.f1) ((rd_T37 x21 x23).f2.f2) x108000 1).bind fun bt110 => (if bt110.1 = true then (some true) else (treenaillaw05_large.l0 k x21 x22 (wrap64 (x23 + 1)) x107000 x107001 bt110.2))) else (none)) else (none)) else (treenaillaw05_large.l1 k x107001 (x107001.length : Int) 0 x108000)
def treenaillaw05_large.l1 : Nat → List (S53) → Int → Int → Int → Option (Bool)
 | 0, _, _, _, _ => none
 | k + 1, x33, x34, x35, x108000 => if x35 < x34 then (if 0 ≤ x35 then (if x35 < (x33.length : Int) then ((treenaillaw05_deep.f k ((rd_T53 x33 x35).f3.f0) ((rd_T53 x33 x35).f3.f1) ((rd_T53 x33 x35).f3.f2) x108000 1).bind fun bt114 => (if bt114.1 = true then (some true) else (treenaillaw05_large.l1 k x33 x34 (wrap64 (x35 + 1)) bt114.2))) else (none)) else (none)) else (some false)
end
def treenaillaw05_large.f (k : Nat) (l0_0 : List (S37)) (l0_1 : List (S53)) : Option (Bool) := if (l0_0.length : Int) > 60 then (treenaillaw05_large.j0 k true l0_0 l0_1) else (treenaillaw05_large.j0 k (decide ((l0_1.length : Int) > 100)) l0_0 l0_1)
set_option maxRecDepth 100000 in
theorem treenaillaw05_large.mono_l : ∀ k, (∀ y0 y1 y2, LeO (treenaillaw05_large.j0 k y0 y1 y2) (treenaillaw05_large.j0 (k + 1) y0 y1 y2)) ∧ (∀ y0 y1 y2 y3 y4 y5, LeO (treenaillaw05_large.l0 k y0 y1 y2 y3 y4 y5) (treenaillaw05_large.l0 (k + 1) y0 y1 y2 y3 y4 y5)) ∧ (∀ y0 y1 y2 y3, LeO (treenaillaw05_large.l1 k y0 y1 y2 y3) (treenaillaw05_large.l1 (k + 1) y0 y1 y2 y3))
 | 0 => ⟨fun _ _ _ r h => by first | (cases h; done) | simp [treenaillaw05_large.j0] at h, fun _ _ _ _ _ _ r h => by first | (cases h; done) | simp [treenaillaw05_large.l0] at h, fun _ _ _ _ r h => by first | (cases h; done) | simp [treenaillaw05_large.l1] at h⟩
 | k + 1 => by
  obtain ⟨ih0, ih1, ih2⟩ := treenaillaw05_large.mono_l k
  refine ⟨?_, ?_, ?_⟩
  all_goals intros
  all_goals first | unfold treenaillaw05_large.j0 | unfold treenaillaw05_large.l0 | unfold treenaillaw05_large.l1
  all_goals repeat' first
  | (with_reducible exact ih0 _ _ _)
  | (with_reducible exact ih1 _ _ _ _ _ _)
  | (with_reducible exact ih2 _ _ _ _)
  | (with_reducible exact treenaillaw05_deep.mono _ _ _ _ _ _)
  | (with_reducible exact LeO.refl _)
  | (with_reducible exact LeO.none _)
  | (with_reducible refine LeO.ite ?_ ?_)
  | (with_reducible refine LeO.bind ?_ (fun _ => ?_))
  | refine LeO.ite ?_ ?_
  | refine LeO.bind ?_ (fun _ => ?_)
set_option maxRecDepth 100000 in
theorem treenaillaw05_large.mono : ∀ a0 a1 k, LeO (treenaillaw05_large.f k a0 a1) (treenaillaw05_large.f (k + 1) a0 a1) := by
 intro a0 a1 k
 obtain ⟨ih0, ih1, ih2⟩ := treenaillaw05_large.mono_l k
 unfold treenaillaw05_large.f
 repeat' first
 | (with_reducible exact ih0 _ _ _)
 | (with_reducible exact ih1 _ _ _ _ _ _)
 | (with_reducible exact ih2 _ _ _ _)
 | (with_reducible exact treenaillaw05_deep.mono _ _ _ _ _ _)
 | (with_reducible exact LeO.refl _)
 | (with_reducible exact LeO.none _)
 | (with_reducible refine LeO.ite ?_ ?_)
 | (with_reducible refine LeO.bind ?_ (fun _ => ?_))
 | refine LeO.ite ?_ ?_
 | refine LeO.bind ?_ (fun _ => ?_)
set_option maxHeartbeats 8000000 in
set_option maxRecDepth 100000 in
theorem treenaillaw05_large.calls (k : Nat) (A0_0 : Option Addr) (c0_0 : Nat) (l0_0 : List (S37)) (A0_1 : Option Addr) (c0_1 : Nat) (l0_1 : List (S53)) (r : Bool) (w : World) (hr0_0 : Kd.C k37 w A0_0 l0_0.length l0_0) (hc0_0 : l0_0.length ≤ c0_0) (hr0_1 : Kd.C k53 w A0_1 l0_1.length l0_1) (hc0_1 : l0_1.length ≤ c0_1) (h : treenaillaw05_large.f k l0_0 l0_1 = some r) :
  Calls Tryd.prog 9 #[.agg #[.slice A0_0 l0_0.length c0_0, .slice A0_1 l0_1.length c0_1]] w fun e w' => e = .returned (.bool r) ∧ Below w.heap.size w w' := by
 have hu25 := Tryd.underlying25
 have hu56 := Tryd.underlying56
 have hu37 := Tryd.underlying37
 have hu35 := Tryd.underlying35
 have hu53 := Tryd.underlying53
 have HR0_0 := zm hr0_0
 have HC0_0 := zm hc0_0
 clear hr0_0 hc0_0
 have HR0_1 := zm hr0_1
 have HC0_1 := zm hc0_1
 clear hr0_1 hc0_1
 have HB := zm (Below.refl w.heap.size w)
 have H : (if (l0_0.length : Int) > 60 then (treenaillaw05_large.j0 k true l0_0 l0_1) else (treenaillaw05_large.j0 k (decide ((l0_1.length : Int) > 100)) l0_0 l0_1)) = some r := h
 clear h
 have HC2 := zm H
 clear H
 go_enter Tryd.func9, Tryd.ntmps9
 go_upto_region 1 with (first | ((with_reducible refine gate_dst (N := 1) rfl ?_); (try (refine gate_guard (by rfl) ?_; dsimp only)); refine box_event ?hg (N := 1) ?hd (cs := #[.slice A0_0 l0_0.length c0_0, .slice A0_1 l0_1.length c0_1]) (t := 25) ?hr ?_; (case hd => rfl); (case hg => rfl); (case hr => first | (go_simp; done) | (go_simp; rfl)); intro gb106 hg w3 hbox hb; have BK106 := zm (hbox); have GW106 := zm ((by rw [hg]; exact (below_size (bx HB.out)) : w.heap.size ≤ gb106)); have GE106 := zm ((by rw [hg]; exact (below_size (bx HB.out)) : w.heap.size ≤ gb106)); replace HB := zm (below_step (bx HB.out) hb); clear hb hbox hg))
 (try simp only [Act.put, sS, sZ, sC])
 go_cut [17] (fun v17 wc => ∃ (kq : Nat) (x17_1 : Bool), v17 = .bool x17_1 ∧ Aside0 (treenaillaw05_large.j0 kq x17_1 l0_0 l0_1 = some r) ∧ Aside0 (kq ≤ k) ∧ Aside0 (wc.heap[gb106]? = some (.cells #[(.slice A0_0 l0_0.length c0_0), (.slice A0_1 l0_1.length c0_1)] 25 (0, 0))) ∧ Aside0 (Below w.heap.size w wc))
 case first =>
  have H := HC2.out
  clear HC2
  by_cases c4 : (l0_0.length : Int) > 60
  ·rw [if_pos c4] at H
   have c4b0 : decide (60 < (l0_0.length : Int)) = true := decide_eq_true c4
   have c4b1 : decide (60 < l0_0.length) = true := decide_eq_true (by omega)
   clear c4
   (first | rw [c4b0] | (simp only [i64_w, i32_w]; rw [c4b0]) | rw [c4b1] | skip)
   have H' := zm H
   clear H
   have hcz5_0 := bc0 BK106.out
   have hcz5_1 := bc1 BK106.out
   have hfz5_0 := bF BK106.out 0
   have hfz5_1 := bF BK106.out 1
   go_wp2
   go_meet
   case rel => exact ⟨_, (true), (by first | rfl | (simp; done) | (simp [*]; done)), H', ⟨by first | omega | exact Nat.le_refl _⟩, ⟨kx BK106.out⟩, ⟨bx HB.out⟩⟩
  rw [if_neg c4] at H
  have c4b0 : decide (60 < (l0_0.length : Int)) = false := decide_eq_false c4
  try (have c4b9 := c4b0; rw [hl112_5] at c4b9)
  try (have c4b9 := c4b0; rw [hl108_4] at c4b9)
  have c4b1 : decide (60 < l0_0.length) = false := decide_eq_false (by omega)
  clear c4
  (first | rw [c4b0] | (simp only [i64_w, i32_w]; rw [c4b0]) | rw [c4b1] | skip)
  have H' := zm H
  clear H
  have hcz6_0 := bc0 BK106.out
  have hcz6_1 := bc1 BK106.out
  have hfz6_0 := bF BK106.out 0
  have hfz6_1 := bF BK106.out 1
  go_wp2
  go_meet
  case rel => exact ⟨_, (decide ((l0_1.length : Int) > 100)), (by first | rfl | (simp; done) | (simp [*]; done)), H', ⟨by first | omega | exact Nat.le_refl _⟩, ⟨kx BK106.out⟩, ⟨bx HB.out⟩⟩
 clear HC2
 try clear p2
 try clear c4
 try clear c4b0
 try clear c4b1
 try clear BK106
 obtain ⟨kq, x17_1, rfl, HA, HJ1, BK106, HB⟩ := hcut
 cases kq with
 | zero => exact absurd HA.out (by first | (intro h_; cases h_; done) | simp [treenaillaw05_large.j0])
 | succ kj1 =>
  have H := HA.out
  clear HA
  simp only [treenaillaw05_large.j0] at H
  by_cases c7 : x17_1 = true
  ·subst c7
   rw [if_pos rfl] at H
   obtain rfl := Option.some.inj H
   go_wp2
   go_ret
   exact ⟨xe, bx HB.out⟩
  replace c7 := Bool.eq_false_iff.mpr c7
  subst c7
  rw [if_neg (show ¬ (false = true) by decide)] at H
  have H' := zm H
  clear H
  go_wp2_with (first | ((with_reducible refine gate_dst (N := 19) rfl ?_); (try (refine gate_guard (by rfl) ?_; dsimp only)); refine box_event ?hg (N := 19) ?hd (cs := #[.int .i64 3000]) (t := 56) ?hr ?_; (case hd => rfl); (case hg => rfl); (case hr => first | (go_simp; done) | (go_simp; rfl)); intro gb107 hg w8 hbox hb; have BK107 := zm (hbox); have GW107 := zm ((by rw [hg]; exact (below_size (bx HB.out)) : w.heap.size ≤ gb107)); have GE107 := zm ((by rw [hg]; exact (below_size (bx HB.out)) : w.heap.size ≤ gb107)); have NB106_107 := zm ((by rw [hg]; exact Nat.ne_of_lt (blk_lt (g := gb106) (o := .cells #[.slice A0_0 l0_0.length c0_0, .slice A0_1 l0_1.length c0_1] 25 (0, 0)) (kx BK106.out)) : gb106 ≠ gb107)); have NB107_106 := zm ((by rw [hg]; exact Nat.ne_of_gt (blk_lt (g := gb106) (o := .cells #[.slice A0_0 l0_0.length c0_0, .slice A0_1 l0_1.length c0_1] 25 (0, 0)) (kx BK106.out)) : gb107 ≠ gb106)); replace BK106 := zm (kB (kx BK106.out) hb); have HI107 := zm ((⟨hbox, (by rw [hg]; exact (below_size (bx HB.out)) : w.heap.size ≤ gb107)⟩ : IsS56 w w8 gb107 3000)); replace HB := zm (below_step (bx HB.out) hb); clear hb hbox hg; have hnb9 := NB106_107.out; have hnc9 := NB107_106.out; have hcz10_0 := bc0 BK106.out; have hcz10_1 := bc1 BK106.out; have hfz10_0 := bF BK106.out 0; have hfz10_1 := bF BK106.out 1))
  go_loopg [23] kj1 (fun kq v23 w' => ∃ (x23_2 : Int) (x108000_2 : Int), v23 = .int .i64 x23_2 ∧ Aside0 (treenaillaw05_large.l0 kq l0_0 (l0_0.length : Int) x23_2 l0_0 l0_1 x108000_2 = some r) ∧ Aside0 (kq ≤ kj1) ∧ Aside0 (w'.heap[gb106]? = some (.cells #[(.slice A0_0 l0_0.length c0_0), (.slice A0_1 l0_1.length c0_1)] 25 (0, 0))) ∧ Aside0 (IsS56 w w' gb107 x108000_2) ∧ Aside0 (Below w.heap.size w w'))
  case atStart => exact ⟨(0), (3000), (by first | rfl | (simp; done) | (simp [*]; done)), H', ⟨Nat.le_refl _⟩, ⟨kx BK106.out⟩, ⟨by repeat (first | (with_reducible first | exact HI107.out | apply IsS56.alloc | apply IsS56.drewN | apply IsS56.drew | apply IsS56.set_0 | refine IsS56.far ?_ NB107_106.out _) | exact HI107.out)⟩, ⟨by (with_reducible repeat first | apply bA | apply bN | apply bD | refine bS ?_ (IsS56.ge HI107.out) | refine bS ?_ GE106.out); exact HB.out⟩⟩
  clear H'
  try clear p2
  try clear c4
  try clear c4b0
  try clear c4b1
  try clear c7
  try clear c9
  try clear p2
  try clear BK106
  obtain ⟨x23_2, x108000_2, rfl, HA, HK2, BK106, HI107, HB⟩ := hrel
  cases gk with
  | zero => exact absurd HA.out (by first | (intro h_; cases h_; done) | simp [treenaillaw05_large.l0])
  | succ k2 =>
   have H := HA.out
   clear HA
   simp only [treenaillaw05_large.l0] at H
   by_cases c11 : x23_2 < (l0_0.length : Int)
   ·rw [if_pos c11] at H
    have c11b0 := decide_eq_true c11
    clear c11
    by_cases c12 : 0 ≤ x23_2
    ·rw [if_pos c12] at H
     have c12b0 := decide_eq_true c12
     clear c12
     by_cases c13 : x23_2 < (l0_0.length : Int)
     ·rw [if_pos c13] at H
      have c13b0 := decide_eq_true c13
      clear c13
      replace H := Option.bind_eq_some_iff.mp H
      obtain ⟨⟨t110, t111⟩, A140, H⟩ := H
      replace H : (if t110 = true then (some true) else (treenaillaw05_large.l0 k2 l0_0 (l0_0.length : Int) (wrap64 (x23_2 + 1)) l0_0 l0_1 t111)) = some r := H
      have A14 := zm A140
      clear A140
      have HC15 := zm H
      clear H
      have p108 : 0 ≤ (x23_2 : Int) := od
      have q108 : x23_2 < (l0_0.length : Int) := od
      obtain ⟨ad108, A108_4, c108_4, e108, hx108_0, hx108_1, hx108_2, hx108_3, hx108_4, hl108_4, hi108_4⟩ := at_T37 HR0_0.out x23_2 p108 q108
      cases e108
      replace hx108_0 := cb HB.out hx108_0
      replace hx108_1 := cb HB.out hx108_1
      replace hx108_2 := cb HB.out hx108_2
      replace hx108_3 := cb HB.out hx108_3
      replace hx108_4 := cb HB.out hx108_4
      have HR108_4 := zm hi108_4
      have HC108_4 := zm hl108_4
      clear hi108_4 hl108_4
      replace p108 := eq_true p108
      replace q108 := eq_true q108
      go_upto_if 30 with (first | ((with_reducible refine gate_dst (N := 5) rfl ?_); (try (refine gate_guard (by rfl) ?_; dsimp only)); refine box_event ?hg (N := 5) ?hd (cs := #[.int .i64 0, .int .i64 0, .int .i64 0, .int .i64 0, .slice none 0 0]) (t := 37) ?hr ?_; (case hd => rfl); (case hg => rfl); (case hr => first | (go_simp; done) | (go_simp; rfl)); intro gb109 hg w16 hbox hb; have BK109 := zm (hbox); have GW109 := zm ((by rw [hg]; exact (below_size (by (with_reducible repeat first | apply bA | apply bN | apply bD | refine bS ?_ (IsS56.ge HI107.out) | refine bS ?_ GE106.out); exact HB.out)) : w.heap.size ≤ gb109)); have GE109 := zm ((by rw [hg]; exact (below_size (by (with_reducible repeat first | apply bA | apply bN | apply bD | refine bS ?_ (IsS56.ge HI107.out) | refine bS ?_ GE106.out); exact HB.out)) : w.heap.size ≤ gb109)); replace HB := zm (below_step (by (with_reducible repeat first | apply bA | apply bN | apply bD | refine bS ?_ (IsS56.ge HI107.out) | refine bS ?_ GE106.out); exact HB.out) hb); have NB106_109 := zm ((by rw [hg]; exact Nat.ne_of_lt (blk_lt (g := gb106) (o := .cells #[.slice (some ad108) l0_0.length c0_0, .slice A0_1 l0_1.length c0_1] 25 (0, 0)) (kx BK106.out)) : gb106 ≠ gb109)); have NB109_106 := zm ((by rw [hg]; exact Nat.ne_of_gt (blk_lt (g := gb106) (o := .cells #[.slice (some ad108) l0_0.length c0_0, .slice A0_1 l0_1.length c0_1] 25 (0, 0)) (kx BK106.out)) : gb109 ≠ gb106)); replace BK106 := zm (kB (kx BK106.out) hb); have NB107_109 := zm ((by rw [hg]; exact Nat.ne_of_lt (IsS56.lt (show IsS56 w _ gb107 x108000_2 from by repeat (first | (with_reducible first | exact HI107.out | apply IsS56.alloc | apply IsS56.drewN | apply IsS56.drew | apply IsS56.set_0 | refine IsS56.far ?_ NB107_106.out _) | exact HI107.out))) : gb107 ≠ gb109)); have NB109_107 := zm ((by rw [hg]; exact Nat.ne_of_gt (IsS56.lt (show IsS56 w _ gb107 x108000_2 from by repeat (first | (with_reducible first | exact HI107.out | apply IsS56.alloc | apply IsS56.drewN | apply IsS56.drew | apply IsS56.set_0 | refine IsS56.far ?_ NB107_106.out _) | exact HI107.out))) : gb109 ≠ gb107)); replace HI107 := zm (IsS56.below (by repeat (first | (with_reducible first | exact HI107.out | apply IsS56.alloc | apply IsS56.drewN | apply IsS56.drew | apply IsS56.set_0 | refine IsS56.far ?_ NB107_106.out _) | exact HI107.out)) hb); clear hb hbox hg; have hnb17 := NB109_106.out; have hnc17 := NB106_109.out; have hnb18 := NB109_107.out; have hnc18 := NB107_109.out; have hcz19_0 := bc0 BK109.out; have hcz19_1 := bc1 BK109.out; have hcz19_2 := bc2 BK109.out; have hcz19_3 := bc3 BK109.out; have hcz19_4 := bc4 BK109.out; have hfz19_0 := bF BK109.out 0; have hfz19_1 := bF BK109.out 1; have hfz19_2 := bF BK109.out 2; have hfz19_3 := bF BK109.out 3; have hfz19_4 := bF BK109.out 4) | ((with_reducible refine gate_callee (f := 27) rfl ?_); refine goesL_ (some 30) rfl rfl Tryd.func27 (by kernel_rfl) rfl #[.agg #[.int .i64 ((rd_T37 l0_0 x23_2).f2.f0), .int .i64 ((rd_T37 l0_0 x23_2).f2.f1), .slice A108_4 ((rd_T37 l0_0 x23_2).f2.f2).length c108_4], .pointer (some ⟨gb107, 0, none⟩), .int .i64 1] rfl ag ?_; (with_reducible refine (treenaillaw05_deep.calls k2 ((rd_T37 l0_0 x23_2).f2.f0) ((rd_T37 l0_0 x23_2).f2.f1) _ _ ((rd_T37 l0_0 x23_2).f2.f2) gb107 x108000_2 1 t110 t111 w _ ?side1 ?side2 ?side3 ?side4 A14.out).mono ?_); (case side1 => repeat (first | (with_reducible first | exact HI107.out | apply IsS56.alloc | apply IsS56.drewN | apply IsS56.drew | apply IsS56.set_0 | refine IsS56.far ?_ NB107_106.out _ | refine IsS56.far ?_ NB107_109.out _) | exact HI107.out)); (case side2 => (with_reducible repeat first | apply bA | apply bN | apply bD | refine bS ?_ (IsS56.ge HI107.out) | refine bS ?_ GE106.out | refine bS ?_ GE109.out); exact HB.out); (case side3 => exact Kd.C_foot_came k35_heap HR108_4.out (by (with_reducible repeat first | apply bA | apply bN | apply bD | refine bS ?_ (IsS56.ge HI107.out) | refine bS ?_ GE106.out | refine bS ?_ GE109.out); exact HB.out) (IsS56.ge HI107.out)); (case side4 => exact HC108_4.out); rintro e w20 ⟨rfl, hi, hb, hk⟩; refine ⟨_, rfl, ?_⟩; replace BK106 := zm (KeepBut.blk hk (g' := gb106) (o := .cells #[.slice (some ad108) l0_0.length c0_0, .slice A0_1 l0_1.length c0_1] 25 (0, 0)) (by (with_reducible repeat first | apply kN | apply kD | apply kA); refine blk_far ?_ NB106_109.out _; (with_reducible repeat first | apply kN | apply kD | apply kA); refine blk_far ?_ NB106_109.out _; (with_reducible repeat first | apply kN | apply kD | apply kA); refine blk_far ?_ NB106_109.out _; (with_reducible repeat first | apply kN | apply kD | apply kA); refine blk_far ?_ NB106_109.out _; (with_reducible repeat first | apply kN | apply kD | apply kA); refine blk_far ?_ NB106_109.out _; (with_reducible repeat first | apply kN | apply kD | apply kA); exact BK106.out) NB106_107.out (by simp)); replace BK109 := zm (KeepBut.blk hk (g' := gb109) (o := .cells #[.int .i64 ((rd_T37 l0_0 x23_2).f0), .int .i64 ((rd_T37 l0_0 x23_2).f1), .int .i64 ((rd_T37 l0_0 x23_2).f2.f0), .int .i64 ((rd_T37 l0_0 x23_2).f2.f1), .slice A108_4 ((rd_T37 l0_0 x23_2).f2.f2).length c108_4] 37 (0, 0)) (by (with_reducible repeat first | apply kN | apply kD | apply kA); refine blk_put (cs := #[.int .i64 ((rd_T37 l0_0 x23_2).f0), .int .i64 ((rd_T37 l0_0 x23_2).f1), .int .i64 ((rd_T37 l0_0 x23_2).f2.f0), .int .i64 ((rd_T37 l0_0 x23_2).f2.f1), .slice none 0 0]) ?_ 4 _ rfl; (with_reducible repeat first | apply kN | apply kD | apply kA); refine blk_put (cs := #[.int .i64 ((rd_T37 l0_0 x23_2).f0), .int .i64 ((rd_T37 l0_0 x23_2).f1), .int .i64 ((rd_T37 l0_0 x23_2).f2.f0), .int .i64 0, .slice none 0 0]) ?_ 3 _ rfl; (with_reducible repeat first | apply kN | apply kD | apply kA); refine blk_put (cs := #[.int .i64 ((rd_T37 l0_0 x23_2).f0), .int .i64 ((rd_T37 l0_0 x23_2).f1), .int .i64 0, .int .i64 0, .slice none 0 0]) ?_ 2 _ rfl; (with_reducible repeat first | apply kN | apply kD | apply kA); refine blk_put (cs := #[.int .i64 ((rd_T37 l0_0 x23_2).f0), .int .i64 0, .int .i64 0, .int .i64 0, .slice none 0 0]) ?_ 1 _ rfl; (with_reducible repeat first | apply kN | apply kD | apply kA); refine blk_put (cs := #[.int .i64 0, .int .i64 0, .int .i64 0, .int .i64 0, .slice none 0 0]) ?_ 0 _ rfl; (with_reducible repeat first | apply kN | apply kD | apply kA); exact BK109.out) NB109_107.out (by simp)); replace HB := zm (hb); replace HI107 := zm (hi); (try clear hb); (try clear hb2); (try clear hk); (try clear hi)))
      have H := HC15.out
      clear HC15
      by_cases c21 : t110 = true
      ·subst c21
       rw [if_pos rfl] at H
       obtain rfl := Option.some.inj H
       go_wp2
       go_ret
       exact ⟨xe, by (with_reducible repeat first | apply bA | apply bN | apply bD | refine bS ?_ (IsS56.ge HI107.out) | refine bS ?_ GE106.out | refine bS ?_ GE109.out); exact HB.out⟩
      replace c21 := Bool.eq_false_iff.mpr c21
      subst c21
      rw [if_neg (show ¬ (false = true) by decide)] at H
      have H' := zm H
      clear H
      go_wp2
      go_roundg k2
      case measure => have := HJ1.out; have := HK2.out; omega
      case rel => exact ⟨(wrap64 (x23_2 + 1)), (t111), (by first | rfl | (simp; done) | (simp [*]; done)), H', ⟨by have := HJ1.out; have := HK2.out; omega⟩, ⟨kx BK106.out⟩, ⟨by repeat (first | (with_reducible first | exact HI107.out | apply IsS56.alloc | apply IsS56.drewN | apply IsS56.drew | apply IsS56.set_0 | refine IsS56.far ?_ NB107_106.out _ | refine IsS56.far ?_ NB107_109.out _) | exact HI107.out)⟩, ⟨by (with_reducible repeat first | apply bA | apply bN | apply bD | refine bS ?_ (IsS56.ge HI107.out) | refine bS ?_ GE106.out | refine bS ?_ GE109.out); exact HB.out⟩⟩
     rw [if_neg c13] at H
     exact absurd H (by simp)
    rw [if_neg c12] at H
    exact absurd H (by simp)
   rw [if_neg c11] at H
   have c11b0 := decide_eq_false c11
   try (have c11b9 := c11b0; rw [hl112_5] at c11b9)
   try (have c11b9 := c11b0; rw [hl108_4] at c11b9)
   clear c11
   have H' := zm H
   clear H
   have hnb22 := NB106_107.out
   have hnc22 := NB107_106.out
   have hcz23_0 := bc0 BK106.out
   have hcz23_1 := bc1 BK106.out
   have hfz23_0 := bF BK106.out 0
   have hfz23_1 := bF BK106.out 1
   go_wp2
   go_loopg [35] k2 (fun kq v35 w' => ∃ (x35_3 : Int) (x108000_3 : Int), v35 = .int .i64 x35_3 ∧ Aside0 (treenaillaw05_large.l1 kq l0_1 (l0_1.length : Int) x35_3 x108000_3 = some r) ∧ Aside0 (kq ≤ k2) ∧ Aside0 (w'.heap[gb106]? = some (.cells #[(.slice A0_0 l0_0.length c0_0), (.slice A0_1 l0_1.length c0_1)] 25 (0, 0))) ∧ Aside0 (IsS56 w w' gb107 x108000_3) ∧ Aside0 (Below w.heap.size w w'))
   case atStart => exact ⟨(0), (x108000_2), (by first | rfl | (simp; done) | (simp [*]; done)), H', ⟨Nat.le_refl _⟩, ⟨kx BK106.out⟩, ⟨by repeat (first | (with_reducible first | exact HI107.out | apply IsS56.alloc | apply IsS56.drewN | apply IsS56.drew | apply IsS56.set_0 | refine IsS56.far ?_ NB107_106.out _) | exact HI107.out)⟩, ⟨by (with_reducible repeat first | apply bA | apply bN | apply bD | refine bS ?_ (IsS56.ge HI107.out) | refine bS ?_ GE106.out); exact HB.out⟩⟩
   clear H'
   try clear c1
   try clear p1
   try clear q1
   try clear hx1
   try clear c2
   try clear p2
   try clear c4
   try clear c4b0
   try clear c4b1
   try clear p6
   try clear c7
   try clear c9
   try clear c10
   try clear p10
   try clear q10
   try clear hx10
   try clear c11
   try clear c11b0
   try clear c12
   try clear c12b0
   try clear c13
   try clear c13b0
   try clear c17
   try clear c18
   try clear c21
   try clear c22
   try clear hx108_0
   try clear hx108_1
   try clear hx108_2
   try clear hx108_3
   try clear hx108_4
   try clear p108
   try clear p2
   try clear q108
   try clear BK106
   obtain ⟨x35_3, x108000_3, rfl, HA, HK3, BK106, HI107, HB⟩ := hrel
   cases gk with
   | zero => exact absurd HA.out (by first | (intro h_; cases h_; done) | simp [treenaillaw05_large.l1])
   | succ k3 =>
    have H := HA.out
    clear HA
    simp only [treenaillaw05_large.l1] at H
    by_cases c24 : x35_3 < (l0_1.length : Int)
    ·rw [if_pos c24] at H
     have c24b0 := decide_eq_true c24
     clear c24
     by_cases c25 : 0 ≤ x35_3
     ·rw [if_pos c25] at H
      have c25b0 := decide_eq_true c25
      clear c25
      by_cases c26 : x35_3 < (l0_1.length : Int)
      ·rw [if_pos c26] at H
       have c26b0 := decide_eq_true c26
       clear c26
       replace H := Option.bind_eq_some_iff.mp H
       obtain ⟨⟨t114, t115⟩, A270, H⟩ := H
       replace H : (if t114 = true then (some true) else (treenaillaw05_large.l1 k3 l0_1 (l0_1.length : Int) (wrap64 (x35_3 + 1)) t115)) = some r := H
       have A27 := zm A270
       clear A270
       have HC28 := zm H
       clear H
       have p112 : 0 ≤ (x35_3 : Int) := od
       have q112 : x35_3 < (l0_1.length : Int) := od
       obtain ⟨ad112, A112_5, c112_5, e112, hx112_0, hx112_1, hx112_2, hx112_3, hx112_4, hx112_5, hl112_5, hi112_5⟩ := at_T53 HR0_1.out x35_3 p112 q112
       cases e112
       replace hx112_0 := cb HB.out hx112_0
       replace hx112_1 := cb HB.out hx112_1
       replace hx112_2 := cb HB.out hx112_2
       replace hx112_3 := cb HB.out hx112_3
       replace hx112_4 := cb HB.out hx112_4
       replace hx112_5 := cb HB.out hx112_5
       have HR112_5 := zm hi112_5
       have HC112_5 := zm hl112_5
       clear hi112_5 hl112_5
       replace p112 := eq_true p112
       replace q112 := eq_true q112
       go_upto_if 42 with (first | ((with_reducible refine gate_dst (N := 7) rfl ?_); (try (refine gate_guard (by rfl) ?_; dsimp only)); refine box_event ?hg (N := 7) ?hd (cs := #[.int .i64 0, .int .i64 0, .bool false, .int .i64 0, .int .i64 0, .slice none 0 0]) (t := 53) ?hr ?_; (case hd => rfl); (case hg => rfl); (case hr => first | (go_simp; done) | (go_simp; rfl)); intro gb113 hg w29 hbox hb; have BK113 := zm (hbox); have GW113 := zm ((by rw [hg]; exact (below_size (by (with_reducible repeat first | apply bA | apply bN | apply bD | refine bS ?_ (IsS56.ge HI107.out) | refine bS ?_ GE106.out); exact HB.out)) : w.heap.size ≤ gb113)); have GE113 := zm ((by rw [hg]; exact (below_size (by (with_reducible repeat first | apply bA | apply bN | apply bD | refine bS ?_ (IsS56.ge HI107.out) | refine bS ?_ GE106.out); exact HB.out)) : w.heap.size ≤ gb113)); replace HB := zm (below_step (by (with_reducible repeat first | apply bA | apply bN | apply bD | refine bS ?_ (IsS56.ge HI107.out) | refine bS ?_ GE106.out); exact HB.out) hb); have NB106_113 := zm ((by rw [hg]; exact Nat.ne_of_lt (blk_lt (g := gb106) (o := .cells #[.slice A0_0 l0_0.length c0_0, .slice (some ad112) l0_1.length c0_1] 25 (0, 0)) (kx BK106.out)) : gb106 ≠ gb113)); have NB113_106 := zm ((by rw [hg]; exact Nat.ne_of_gt (blk_lt (g := gb106) (o := .cells #[.slice A0_0 l0_0.length c0_0, .slice (some ad112) l0_1.length c0_1] 25 (0, 0)) (kx BK106.out)) : gb113 ≠ gb106)); replace BK106 := zm (kB (kx BK106.out) hb); have NB107_113 := zm ((by rw [hg]; exact Nat.ne_of_lt (IsS56.lt (show IsS56 w _ gb107 x108000_3 from by repeat (first | (with_reducible first | exact HI107.out | apply IsS56.alloc | apply IsS56.drewN | apply IsS56.drew | apply IsS56.set_0 | refine IsS56.far ?_ NB107_106.out _) | exact HI107.out))) : gb107 ≠ gb113)); have NB113_107 := zm ((by rw [hg]; exact Nat.ne_of_gt (IsS56.lt (show IsS56 w _ gb107 x108000_3 from by repeat (first | (with_reducible first | exact HI107.out | apply IsS56.alloc | apply IsS56.drewN | apply IsS56.drew | apply IsS56.set_0 | refine IsS56.far ?_ NB107_106.out _) | exact HI107.out))) : gb113 ≠ gb107)); replace HI107 := zm (IsS56.below (by repeat (first | (with_reducible first | exact HI107.out | apply IsS56.alloc | apply IsS56.drewN | apply IsS56.drew | apply IsS56.set_0 | refine IsS56.far ?_ NB107_106.out _) | exact HI107.out)) hb); clear hb hbox hg; have hnb30 := NB113_106.out; have hnc30 := NB106_113.out; have hnb31 := NB113_107.out; have hnc31 := NB107_113.out; have hcz32_0 := bc0 BK113.out; have hcz32_1 := bc1 BK113.out; have hcz32_2 := bc2 BK113.out; have hcz32_3 := bc3 BK113.out; have hcz32_4 := bc4 BK113.out; have hcz32_5 := bc5 BK113.out; have hfz32_0 := bF BK113.out 0; have hfz32_1 := bF BK113.out 1; have hfz32_2 := bF BK113.out 2; have hfz32_3 := bF BK113.out 3; have hfz32_4 := bF BK113.out 4; have hfz32_5 := bF BK113.out 5) | ((with_reducible refine gate_callee (f := 27) rfl ?_); refine goesL_ (some 42) rfl rfl Tryd.func27 (by kernel_rfl) rfl #[.agg #[.int .i64 ((rd_T53 l0_1 x35_3).f3.f0), .int .i64 ((rd_T53 l0_1 x35_3).f3.f1), .slice A112_5 ((rd_T53 l0_1 x35_3).f3.f2).length c112_5], .pointer (some ⟨gb107, 0, none⟩), .int .i64 1] rfl ag ?_; (with_reducible refine (treenaillaw05_deep.calls k3 ((rd_T53 l0_1 x35_3).f3.f0) ((rd_T53 l0_1 x35_3).f3.f1) _ _ ((rd_T53 l0_1 x35_3).f3.f2) gb107 x108000_3 1 t114 t115 w _ ?side1 ?side2 ?side3 ?side4 A27.out).mono ?_); (case side1 => repeat (first | (with_reducible first | exact HI107.out | apply IsS56.alloc | apply IsS56.drewN | apply IsS56.drew | apply IsS56.set_0 | refine IsS56.far ?_ NB107_106.out _ | refine IsS56.far ?_ NB107_113.out _) | exact HI107.out)); (case side2 => (with_reducible repeat first | apply bA | apply bN | apply bD | refine bS ?_ (IsS56.ge HI107.out) | refine bS ?_ GE106.out | refine bS ?_ GE113.out); exact HB.out); (case side3 => exact Kd.C_foot_came k35_heap HR112_5.out (by (with_reducible repeat first | apply bA | apply bN | apply bD | refine bS ?_ (IsS56.ge HI107.out) | refine bS ?_ GE106.out | refine bS ?_ GE113.out); exact HB.out) (IsS56.ge HI107.out)); (case side4 => exact HC112_5.out); rintro e w33 ⟨rfl, hi, hb, hk⟩; refine ⟨_, rfl, ?_⟩; replace BK106 := zm (KeepBut.blk hk (g' := gb106) (o := .cells #[.slice A0_0 l0_0.length c0_0, .slice (some ad112) l0_1.length c0_1] 25 (0, 0)) (by (with_reducible repeat first | apply kN | apply kD | apply kA); refine blk_far ?_ NB106_113.out _; (with_reducible repeat first | apply kN | apply kD | apply kA); refine blk_far ?_ NB106_113.out _; (with_reducible repeat first | apply kN | apply kD | apply kA); refine blk_far ?_ NB106_113.out _; (with_reducible repeat first | apply kN | apply kD | apply kA); refine blk_far ?_ NB106_113.out _; (with_reducible repeat first | apply kN | apply kD | apply kA); refine blk_far ?_ NB106_113.out _; (with_reducible repeat first | apply kN | apply kD | apply kA); refine blk_far ?_ NB106_113.out _; (with_reducible repeat first | apply kN | apply kD | apply kA); exact BK106.out) NB106_107.out (by simp)); replace BK113 := zm (KeepBut.blk hk (g' := gb113) (o := .cells #[.int .i64 ((rd_T53 l0_1 x35_3).f0), .int .i64 ((rd_T53 l0_1 x35_3).f1), .bool ((rd_T53 l0_1 x35_3).f2), .int .i64 ((rd_T53 l0_1 x35_3).f3.f0), .int .i64 ((rd_T53 l0_1 x35_3).f3.f1), .slice A112_5 ((rd_T53 l0_1 x35_3).f3.f2).length c112_5] 53 (0, 0)) (by (with_reducible repeat first | apply kN | apply kD | apply kA); refine blk_put (cs := #[.int .i64 ((rd_T53 l0_1 x35_3).f0), .int .i64 ((rd_T53 l0_1 x35_3).f1), .bool ((rd_T53 l0_1 x35_3).f2), .int .i64 ((rd_T53 l0_1 x35_3).f3.f0), .int .i64 ((rd_T53 l0_1 x35_3).f3.f1), .slice none 0 0]) ?_ 5 _ rfl; (with_reducible repeat first | apply kN | apply kD | apply kA); refine blk_put (cs := #[.int .i64 ((rd_T53 l0_1 x35_3).f0), .int .i64 ((rd_T53 l0_1 x35_3).f1), .bool ((rd_T53 l0_1 x35_3).f2), .int .i64 ((rd_T53 l0_1 x35_3).f3.f0), .int .i64 0, .slice none 0 0]) ?_ 4 _ rfl; (with_reducible repeat first | apply kN | apply kD | apply kA); refine blk_put (cs := #[.int .i64 ((rd_T53 l0_1 x35_3).f0), .int .i64 ((rd_T53 l0_1 x35_3).f1), .bool ((rd_T53 l0_1 x35_3).f2), .int .i64 0, .int .i64 0, .slice none 0 0]) ?_ 3 _ rfl; (with_reducible repeat first | apply kN | apply kD | apply kA); refine blk_put (cs := #[.int .i64 ((rd_T53 l0_1 x35_3).f0), .int .i64 ((rd_T53 l0_1 x35_3).f1), .bool false, .int .i64 0, .int .i64 0, .slice none 0 0]) ?_ 2 _ rfl; (with_reducible repeat first | apply kN | apply kD | apply kA); refine blk_put (cs := #[.int .i64 ((rd_T53 l0_1 x35_3).f0), .int .i64 0, .bool false, .int .i64 0, .int .i64 0, .slice none 0 0]) ?_ 1 _ rfl; (with_reducible repeat first | apply kN | apply kD | apply kA); refine blk_put (cs := #[.int .i64 0, .int .i64 0, .bool false, .int .i64 0, .int .i64 0, .slice none 0 0]) ?_ 0 _ rfl; (with_reducible repeat first | apply kN | apply kD | apply kA); exact BK113.out) NB113_107.out (by simp)); replace HB := zm (hb); replace HI107 := zm (hi); (try clear hb); (try clear hb2); (try clear hk); (try clear hi)))
       have H := HC28.out
       clear HC28
       by_cases c34 : t114 = true
       ·subst c34
        rw [if_pos rfl] at H
        obtain rfl := Option.some.inj H
        go_wp2
        go_ret
        exact ⟨xe, by (with_reducible repeat first | apply bA | apply bN | apply bD | refine bS ?_ (IsS56.ge HI107.out) | refine bS ?_ GE106.out | refine bS ?_ GE113.out); exact HB.out⟩
       replace c34 := Bool.eq_false_iff.mpr c34
       subst c34
       rw [if_neg (show ¬ (false = true) by decide)] at H
       have H' := zm H
       clear H
       go_wp2
       go_roundg k3
       case measure => have := HJ1.out; have := HK2.out; have := HK3.out; omega
       case rel => exact ⟨(wrap64 (x35_3 + 1)), (t115), (by first | rfl | (simp; done) | (simp [*]; done)), H', ⟨by have := HJ1.out; have := HK2.out; have := HK3.out; omega⟩, ⟨kx BK106.out⟩, ⟨by repeat (first | (with_reducible first | exact HI107.out | apply IsS56.alloc | apply IsS56.drewN | apply IsS56.drew | apply IsS56.set_0 | refine IsS56.far ?_ NB107_106.out _ | refine IsS56.far ?_ NB107_113.out _) | exact HI107.out)⟩, ⟨by (with_reducible repeat first | apply bA | apply bN | apply bD | refine bS ?_ (IsS56.ge HI107.out) | refine bS ?_ GE106.out | refine bS ?_ GE113.out); exact HB.out⟩⟩
      rw [if_neg c26] at H
      exact absurd H (by simp)
     rw [if_neg c25] at H
     exact absurd H (by simp)
    rw [if_neg c24] at H
    have c24b0 := decide_eq_false c24
    try (have c24b9 := c24b0; rw [hl112_5] at c24b9)
    try (have c24b9 := c24b0; rw [hl108_4] at c24b9)
    clear c24
    obtain rfl := Option.some.inj H
    go_wp2
    go_ret
    exact ⟨xe, by (with_reducible repeat first | apply bA | apply bN | apply bD | refine bS ?_ (IsS56.ge HI107.out) | refine bS ?_ GE106.out); exact HB.out⟩

end Go.Proofs.YtdaeiicdpfghlaaDoor.R
