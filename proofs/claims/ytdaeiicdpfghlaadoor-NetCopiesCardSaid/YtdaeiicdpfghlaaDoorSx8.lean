import Derived.Test.YtdaeiicdpfghlaaDoorSx0
import Derived.Test.YtdaeiicdpfghlaaDoorSx2
import Derived.Test.YtdaeiicdpfghlaaDoorSx3
import Derived.Test.YtdaeiicdpfghlaaDoorSx5
import Derived.Test.YtdaeiicdpfghlaaDoorSx7
namespace Go.Proofs.YtdaeiicdpfghlaaDoor.R
open Go.RowKit Go.Proofs.YtdaeiicdpfghlaaDoorW.PrintWords Go.Proofs.YtdaeiicdpfghlaaDoorW.PrintLast Go.Proofs.YtdaeiicdpfghlaaDoorW.PrintMore
attribute [local go_sem] max2_int min2_int max_two min_two max_three min_three max_four min_four   -- for this text's walks alone
set_option linter.unusedVariables false
set_option linter.unusedSimpArgs false

def net_third.f (k : Nat) (l0_0 : List (S37)) (l0_1 : List (S53)) : Option ((List (S47))) := (net_Start.f k l0_0 l0_1).bind fun t191 => ((net_End.f k l0_0 l0_1).bind fun t192 => ((net_places.f k 3 (l0_0.length : Int) (net_third_1.q k l0_0 l0_1 t191 t192)).bind fun t195 => (if t191 < 0 then (if t195.length < 8796093022208 then (some (t195 ++ [(⟨3, (l0_0.length : Int)⟩ : S47)])) else (none)) else (if t192 < 0 then (if t195.length < 8796093022208 then (some (t195 ++ [(⟨3, (l0_0.length : Int)⟩ : S47)])) else (none)) else (some t195)))))
set_option maxRecDepth 100000 in
theorem net_third.mono : ∀ a0 a1 k, LeO (net_third.f k a0 a1) (net_third.f (k + 1) a0 a1) := by
 intro a0 a1 k
 unfold net_third.f
 repeat' first
 | (with_reducible exact net_End.mono _ _ _)
 | (with_reducible exact net_Start.mono _ _ _)
 | (with_reducible exact net_places.mono _ _ _ _)
 | (with_reducible exact net_All_1.up_net_places)
 | (with_reducible exact net_All_2.up_net_places)
 | (with_reducible exact net_third_1.up_net_places)
 | (with_reducible exact LeO.refl _)
 | (with_reducible exact LeO.none _)
 | (with_reducible refine LeO.ite ?_ ?_)
 | (with_reducible refine LeO.bind ?_ (fun _ => ?_))
 | refine LeO.ite ?_ ?_
 | refine LeO.bind ?_ (fun _ => ?_)
def net_third.T1 : Bool × List (List Nat × List Nat) := (true, [([], []), ([0], [0]), ([], []), ([2, 1], [2]), ([], []), ([], []), ([4, 1, 3, 0, 1, 4, 5], [1, 4]), ([5, 3, 6, 0, 1, 2, 3, 4, 5, 6], [3, 5])])
def net_third.B1 : List Nat := [0, 1, 0, 7, 0, 0, 63, 127]
theorem net_third.tab1 : rtab .any (opsOf Tryd.f42 1) = net_third.T1 := by kernel_rfl
theorem net_third.bits1 : waitsOk net_third.T1.2 net_third.B1 = true := by kernel_rfl
set_option maxHeartbeats 8000000 in
set_option maxRecDepth 100000 in
theorem net_third.calls (k : Nat) (A0_0 : Option Addr) (c0_0 : Nat) (l0_0 : List (S37)) (A0_1 : Option Addr) (c0_1 : Nat) (l0_1 : List (S53)) (r : List (S47)) (w : World) (hr0_0 : Kd.C k37 w A0_0 l0_0.length l0_0) (hc0_0 : l0_0.length ≤ c0_0) (hr0_1 : Kd.C k53 w A0_1 l0_1.length l0_1) (hc0_1 : l0_1.length ≤ c0_1) (h : net_third.f k l0_0 l0_1 = some r) :
  Calls Tryd.prog 42 #[.agg #[.slice A0_0 l0_0.length c0_0, .slice A0_1 l0_1.length c0_1]] w fun e w' => ∃ v0_ : Value, e = .returned (v0_) ∧ Kd.R k47 47 w' w.heap.size (fun _ => True) v0_ r ∧ Below w.heap.size w w' := by
 have hu25 := Tryd.underlying25
 have hu47 := Tryd.underlying47
 have HR0_0 := zm hr0_0
 have HC0_0 := zm hc0_0
 clear hr0_0 hc0_0
 have HR0_1 := zm hr0_1
 have HC0_1 := zm hc0_1
 clear hr0_1 hc0_1
 have HB := zm (Below.refl w.heap.size w)
 have H : ((net_Start.f k l0_0 l0_1).bind fun t191 => ((net_End.f k l0_0 l0_1).bind fun t192 => ((net_places.f k 3 (l0_0.length : Int) (net_third_1.q k l0_0 l0_1 t191 t192)).bind fun t195 => (if t191 < 0 then (if t195.length < 8796093022208 then (some (t195 ++ [(⟨3, (l0_0.length : Int)⟩ : S47)])) else (none)) else (if t192 < 0 then (if t195.length < 8796093022208 then (some (t195 ++ [(⟨3, (l0_0.length : Int)⟩ : S47)])) else (none)) else (some t195)))))) = some r := h
 clear h
 replace H := Option.bind_eq_some_iff.mp H
 obtain ⟨t191, A20, H⟩ := H
 have A2 := zm A20
 clear A20
 replace H := Option.bind_eq_some_iff.mp H
 obtain ⟨t192, A30, H⟩ := H
 have A3 := zm A30
 clear A30
 replace H := Option.bind_eq_some_iff.mp H
 obtain ⟨t195, A40, H⟩ := H
 replace H : (if t191 < 0 then (if t195.length < 8796093022208 then (some (t195 ++ [(⟨3, (l0_0.length : Int)⟩ : S47)])) else (none)) else (if t192 < 0 then (if t195.length < 8796093022208 then (some (t195 ++ [(⟨3, (l0_0.length : Int)⟩ : S47)])) else (none)) else (some t195))) = some r := H
 have A4 := zm A40
 clear A40
 have HC5 := zm H
 clear H
 go_enter Tryd.func42, Tryd.ntmps42
 try go_wp2_with (first | ((with_reducible refine gate_dst (N := 1) rfl ?_); refine box_event ?hg (N := 1) ?hd (cs := #[.slice A0_0 l0_0.length c0_0, .slice A0_1 l0_1.length c0_1]) (t := 25) ?hr ?_; (case hd => rfl); (case hg => rfl); (case hr => first | (go_simp; done) | (go_simp; rfl)); intro gb190 hg w6 hbox hb; have BK190 := zm (hbox); have GW190 := zm ((by rw [hg]; exact (below_size (bx HB.out)) : w.heap.size ≤ gb190)); have GE190 := zm ((by rw [hg]; exact (below_size (bx HB.out)) : w.heap.size ≤ gb190)); replace HB := zm (below_step (bx HB.out) hb); clear hb hbox hg))
 replace BK190 := zm (blk_drew BK190.out)
 replace HB := zm (below_drew1 HB.out)
 refine start_ (n := 8) (S := fun w' => w'.cell? ⟨gb190, 0, none⟩ = some (.slice A0_0 l0_0.length c0_0) ∧ w'.cell? ⟨gb190, 1, none⟩ = some (.slice A0_1 l0_1.length c0_1)) (ds := []) #[Z,Z,Z,Z,Z,Z,Z,Z] (by kernel_rfl) rfl rfl ⟨bc0 BK190.out, bc1 BK190.out⟩ (fun hHeld => ?_); refine with_tabW net_third.tab1 net_third.bits1 (fun HT_ HW_ => ?_)
 generalize w6.drew = w7 at BK190 HB hHeld ⊢
 refine take_ (i := 0) (N := some 6) (v := ?_) (a' := ?_) #[Y,Z,Z,Z,Z,Z,Z,Z] rfl rfl (take_ofW HT_.out HW_.out (by kernel_rfl)) (fun _ _ _ h => h) (Or.inl ⟨by rfl, ?_⟩) hHeld ?_ ?_
 rotate_left
 ·rintro w' ⟨s0, s1⟩
  go_simp
  with_reducible rfl
 rotate_left
 ·simp only [Act.put, sS, sZ, sC, i64_w, i32_w]
  rfl
 refine take_ (i := 2) (N := some 8) (v := ?_) (a' := ?_) #[Y,Z,Y,Z,Z,Z,Z,Z] rfl rfl (take_ofW HT_.out HW_.out (by kernel_rfl)) (fun _ _ _ h => h) (Or.inl ⟨by rfl, ?_⟩) hHeld ?_ ?_
 rotate_left
 ·rintro w' ⟨s0, s1⟩
  go_simp
  with_reducible rfl
 rotate_left
 ·simp only [Act.put, sS, sZ, sC, i64_w, i32_w]
  rfl
 refine join_ (σ := Nat × Nat) 2 #[Y,Y,Y,Y,Y,Y,Z,Z] (fun s_ => [(7, .int .i64 t191), (9, .int .i64 t192), (3, .pointer (some ⟨s_.1, 0, none⟩)), (4, .pointer (some ⟨s_.2, 0, none⟩))]) (fun s_ w' => (w'.cell? ⟨gb190, 0, none⟩ = some (.slice A0_0 l0_0.length c0_0) ∧ w'.cell? ⟨gb190, 1, none⟩ = some (.slice A0_1 l0_1.length c0_1)) ∧ (w'.heap[gb190]? = some (.cells #[.slice A0_0 l0_0.length c0_0, .slice A0_1 l0_1.length c0_1] 25 (0, 0))) ∧ (w'.heap[s_.1]? = some (.cells #[.int .i64 0] 3 (0, 0))) ∧ (w'.heap[s_.2]? = some (.cells #[.int .i64 0] 3 (0, 0))) ∧ (w.heap.size ≤ s_.1) ∧ (w.heap.size ≤ s_.1) ∧ (gb190 ≠ s_.1) ∧ (s_.1 ≠ gb190) ∧ (s_.2 ≠ s_.1) ∧ (s_.1 ≠ s_.2) ∧ (w.heap.size ≤ s_.2) ∧ (w.heap.size ≤ s_.2) ∧ (gb190 ≠ s_.2) ∧ (s_.2 ≠ gb190) ∧ (Below w.heap.size w w')) ?_ ?_
 rotate_left
 ·intro hJ1_3_4_5
  refine join_ (σ := Nat) 3 #[Y,Y,Y,Y,Y,Z,Z,Z] (fun s_ => [(7, .int .i64 t191), (9, .int .i64 t192), (3, .pointer (some ⟨s_, 0, none⟩))]) (fun s_ w' => (w'.cell? ⟨gb190, 0, none⟩ = some (.slice A0_0 l0_0.length c0_0) ∧ w'.cell? ⟨gb190, 1, none⟩ = some (.slice A0_1 l0_1.length c0_1)) ∧ (w'.heap[gb190]? = some (.cells #[.slice A0_0 l0_0.length c0_0, .slice A0_1 l0_1.length c0_1] 25 (0, 0))) ∧ (w'.heap[s_]? = some (.cells #[.int .i64 0] 3 (0, 0))) ∧ (w.heap.size ≤ s_) ∧ (w.heap.size ≤ s_) ∧ (gb190 ≠ s_) ∧ (s_ ≠ gb190) ∧ (Below w.heap.size w w')) ?_ ?_
  rotate_left
  ·intro hJ1_3_4
   refine join_ (σ := Nat) 3 #[Y,Y,Y,Y,Z,Y,Z,Z] (fun s_ => [(7, .int .i64 t191), (9, .int .i64 t192), (4, .pointer (some ⟨s_, 0, none⟩))]) (fun s_ w' => (w'.cell? ⟨gb190, 0, none⟩ = some (.slice A0_0 l0_0.length c0_0) ∧ w'.cell? ⟨gb190, 1, none⟩ = some (.slice A0_1 l0_1.length c0_1)) ∧ (w'.heap[gb190]? = some (.cells #[.slice A0_0 l0_0.length c0_0, .slice A0_1 l0_1.length c0_1] 25 (0, 0))) ∧ (w'.heap[s_]? = some (.cells #[.int .i64 0] 3 (0, 0))) ∧ (w.heap.size ≤ s_) ∧ (w.heap.size ≤ s_) ∧ (gb190 ≠ s_) ∧ (s_ ≠ gb190) ∧ (Below w.heap.size w w')) ?_ ?_
   rotate_left
   ·intro hJ1_3_5
    refine join_ (σ := Nat × Nat) 3 #[Y,Y,Y,Z,Y,Y,Z,Z] (fun s_ => [(7, .int .i64 t191), (3, .pointer (some ⟨s_.1, 0, none⟩)), (4, .pointer (some ⟨s_.2, 0, none⟩))]) (fun s_ w' => (w'.cell? ⟨gb190, 0, none⟩ = some (.slice A0_0 l0_0.length c0_0) ∧ w'.cell? ⟨gb190, 1, none⟩ = some (.slice A0_1 l0_1.length c0_1)) ∧ (w'.heap[gb190]? = some (.cells #[.slice A0_0 l0_0.length c0_0, .slice A0_1 l0_1.length c0_1] 25 (0, 0))) ∧ (w'.heap[s_.1]? = some (.cells #[.int .i64 0] 3 (0, 0))) ∧ (w'.heap[s_.2]? = some (.cells #[.int .i64 0] 3 (0, 0))) ∧ (w.heap.size ≤ s_.1) ∧ (w.heap.size ≤ s_.1) ∧ (gb190 ≠ s_.1) ∧ (s_.1 ≠ gb190) ∧ (s_.2 ≠ s_.1) ∧ (s_.1 ≠ s_.2) ∧ (w.heap.size ≤ s_.2) ∧ (w.heap.size ≤ s_.2) ∧ (gb190 ≠ s_.2) ∧ (s_.2 ≠ gb190) ∧ (Below w.heap.size w w')) ?_ ?_
    rotate_left
    ·intro hJ1_4_5
     refine join_ (σ := Unit) 4 #[Y,Y,Y,Y,Z,Z,Z,Z] (fun s_ => [(7, .int .i64 t191), (9, .int .i64 t192)]) (fun s_ w' => (w'.cell? ⟨gb190, 0, none⟩ = some (.slice A0_0 l0_0.length c0_0) ∧ w'.cell? ⟨gb190, 1, none⟩ = some (.slice A0_1 l0_1.length c0_1)) ∧ (w'.heap[gb190]? = some (.cells #[.slice A0_0 l0_0.length c0_0, .slice A0_1 l0_1.length c0_1] 25 (0, 0))) ∧ (Below w.heap.size w w')) ?_ ?_
     rotate_left
     ·intro hJ1_3
      refine join_ (σ := Nat) 4 #[Y,Y,Y,Z,Y,Z,Z,Z] (fun s_ => [(7, .int .i64 t191), (3, .pointer (some ⟨s_, 0, none⟩))]) (fun s_ w' => (w'.cell? ⟨gb190, 0, none⟩ = some (.slice A0_0 l0_0.length c0_0) ∧ w'.cell? ⟨gb190, 1, none⟩ = some (.slice A0_1 l0_1.length c0_1)) ∧ (w'.heap[gb190]? = some (.cells #[.slice A0_0 l0_0.length c0_0, .slice A0_1 l0_1.length c0_1] 25 (0, 0))) ∧ (w'.heap[s_]? = some (.cells #[.int .i64 0] 3 (0, 0))) ∧ (w.heap.size ≤ s_) ∧ (w.heap.size ≤ s_) ∧ (gb190 ≠ s_) ∧ (s_ ≠ gb190) ∧ (Below w.heap.size w w')) ?_ ?_
      rotate_left
      ·intro hJ1_4
       refine join_ (σ := Nat) 4 #[Y,Y,Y,Z,Z,Y,Z,Z] (fun s_ => [(7, .int .i64 t191), (4, .pointer (some ⟨s_, 0, none⟩))]) (fun s_ w' => (w'.cell? ⟨gb190, 0, none⟩ = some (.slice A0_0 l0_0.length c0_0) ∧ w'.cell? ⟨gb190, 1, none⟩ = some (.slice A0_1 l0_1.length c0_1)) ∧ (w'.heap[gb190]? = some (.cells #[.slice A0_0 l0_0.length c0_0, .slice A0_1 l0_1.length c0_1] 25 (0, 0))) ∧ (w'.heap[s_]? = some (.cells #[.int .i64 0] 3 (0, 0))) ∧ (w.heap.size ≤ s_) ∧ (w.heap.size ≤ s_) ∧ (gb190 ≠ s_) ∧ (s_ ≠ gb190) ∧ (Below w.heap.size w w')) ?_ ?_
       rotate_left
       ·intro hJ1_5
        refine join_ (σ := Nat × Nat) 4 #[Y,Z,Y,Z,Y,Y,Z,Z] (fun s_ => [(3, .pointer (some ⟨s_.1, 0, none⟩)), (4, .pointer (some ⟨s_.2, 0, none⟩))]) (fun s_ w' => (w'.cell? ⟨gb190, 0, none⟩ = some (.slice A0_0 l0_0.length c0_0) ∧ w'.cell? ⟨gb190, 1, none⟩ = some (.slice A0_1 l0_1.length c0_1)) ∧ (w'.heap[gb190]? = some (.cells #[.slice A0_0 l0_0.length c0_0, .slice A0_1 l0_1.length c0_1] 25 (0, 0))) ∧ (w'.heap[s_.1]? = some (.cells #[.int .i64 0] 3 (0, 0))) ∧ (w'.heap[s_.2]? = some (.cells #[.int .i64 0] 3 (0, 0))) ∧ (w.heap.size ≤ s_.1) ∧ (w.heap.size ≤ s_.1) ∧ (gb190 ≠ s_.1) ∧ (s_.1 ≠ gb190) ∧ (s_.2 ≠ s_.1) ∧ (s_.1 ≠ s_.2) ∧ (w.heap.size ≤ s_.2) ∧ (w.heap.size ≤ s_.2) ∧ (gb190 ≠ s_.2) ∧ (s_.2 ≠ gb190) ∧ (Below w.heap.size w w')) ?_ ?_
        rotate_left
        ·intro hJ4_5
         refine join_ (σ := Unit) 5 #[Y,Y,Y,Z,Z,Z,Z,Z] (fun s_ => [(7, .int .i64 t191)]) (fun s_ w' => (w'.cell? ⟨gb190, 0, none⟩ = some (.slice A0_0 l0_0.length c0_0) ∧ w'.cell? ⟨gb190, 1, none⟩ = some (.slice A0_1 l0_1.length c0_1)) ∧ (w'.heap[gb190]? = some (.cells #[.slice A0_0 l0_0.length c0_0, .slice A0_1 l0_1.length c0_1] 25 (0, 0))) ∧ (Below w.heap.size w w')) ?_ ?_
         rotate_left
         ·intro hJ1
          refine join_ (σ := Nat) 5 #[Y,Z,Y,Z,Y,Z,Z,Z] (fun s_ => [(3, .pointer (some ⟨s_, 0, none⟩))]) (fun s_ w' => (w'.cell? ⟨gb190, 0, none⟩ = some (.slice A0_0 l0_0.length c0_0) ∧ w'.cell? ⟨gb190, 1, none⟩ = some (.slice A0_1 l0_1.length c0_1)) ∧ (w'.heap[gb190]? = some (.cells #[.slice A0_0 l0_0.length c0_0, .slice A0_1 l0_1.length c0_1] 25 (0, 0))) ∧ (w'.heap[s_]? = some (.cells #[.int .i64 0] 3 (0, 0))) ∧ (w.heap.size ≤ s_) ∧ (w.heap.size ≤ s_) ∧ (gb190 ≠ s_) ∧ (s_ ≠ gb190) ∧ (Below w.heap.size w w')) ?_ ?_
          rotate_left
          ·intro hJ4
           refine join_ (σ := Nat) 5 #[Y,Z,Y,Z,Z,Y,Z,Z] (fun s_ => [(4, .pointer (some ⟨s_, 0, none⟩))]) (fun s_ w' => (w'.cell? ⟨gb190, 0, none⟩ = some (.slice A0_0 l0_0.length c0_0) ∧ w'.cell? ⟨gb190, 1, none⟩ = some (.slice A0_1 l0_1.length c0_1)) ∧ (w'.heap[gb190]? = some (.cells #[.slice A0_0 l0_0.length c0_0, .slice A0_1 l0_1.length c0_1] 25 (0, 0))) ∧ (w'.heap[s_]? = some (.cells #[.int .i64 0] 3 (0, 0))) ∧ (w.heap.size ≤ s_) ∧ (w.heap.size ≤ s_) ∧ (gb190 ≠ s_) ∧ (s_ ≠ gb190) ∧ (Below w.heap.size w w')) ?_ ?_
           rotate_left
           ·intro hJ5
            refine three_ (i := 1) (j := 4) (k := 5) (Ni := some 7) (Nj := some 3) (Nk := some 4) #[Y,Y,Y,Z,Z,Z,Z,Z] #[Y,Z,Y,Z,Y,Z,Z,Z] #[Y,Z,Y,Z,Z,Y,Z,Z] rfl rfl rfl rfl rfl rfl (three_of HT_.out (by kernel_rfl)) (by decide) (by decide) (by decide) (fun K hK => ?_) (fun K hK => ?_) (fun K hK => ?_)
            ·skip
             refine goes_ Tryd.func15 (by kernel_rfl) rfl #[.agg #[.slice A0_0 l0_0.length c0_0, .slice A0_1 l0_1.length c0_1]] (by rfl) rfl rfl ag ?_
             with_reducible refine (net_Start.calls k _ _ l0_0 _ _ l0_1 t191 _ ?side1 ?side2 ?side3 ?side4 A2.out).mono ?_
             (case side1 => exact cx (Kd.C_below HR0_0.out HB.out))
             (case side2 => exact HC0_0.out)
             (case side3 => exact cx (Kd.C_below HR0_1.out HB.out))
             (case side4 => exact HC0_1.out)
             rintro e w8 ⟨rfl, hb⟩
             refine ⟨_, rfl, ?_⟩
             replace BK190 := zm (kB (kx BK190.out) hb)
             replace HB := zm (below_step (bx HB.out) hb)
             (try clear hb)
             (try clear hb2)
             (try clear hk)
             (try clear hi)
             refine hK.out _ _ ⟨bc0 BK190.out, bc1 BK190.out⟩ (fun hHeld => ?_)
             clear hK K
             refine norm_ (a' := ?_) ?_ ?_
             rotate_left
             ·show Act.put _ (some 7) _ = _
              simp only [Act.put, sS, sZ, sC, i64_w, i32_w]
              rfl
             exact norm_ (by simp only [putAll, Act.put, sS, sZ, sC] <;> rfl) (hJ1 () _ ⟨hHeld, (kx BK190.out), (bx HB.out)⟩)
            ·skip
             refine box_step ?hg (N := 3) ?hd (cs := #[.int .i64 0]) (t := 3) ?hr ?_; (case hd => rfl); (case hg => rfl); (case hr => first | (go_simp; done) | (go_simp; rfl))
             intro gb193 hg w8 hbox hb
             have BK193 := zm (hbox)
             have GW193 := zm ((by rw [hg]; exact (below_size (bx HB.out)) : w.heap.size ≤ gb193))
             have GE193 := zm ((by rw [hg]; exact (below_size (bx HB.out)) : w.heap.size ≤ gb193))
             replace HB := zm (below_step (bx HB.out) hb)
             have NB190_193 := zm ((by rw [hg]; exact Nat.ne_of_lt (blk_lt (g := gb190) (o := .cells #[.slice A0_0 l0_0.length c0_0, .slice A0_1 l0_1.length c0_1] 25 (0, 0)) (kx BK190.out)) : gb190 ≠ gb193))
             have NB193_190 := zm ((by rw [hg]; exact Nat.ne_of_gt (blk_lt (g := gb190) (o := .cells #[.slice A0_0 l0_0.length c0_0, .slice A0_1 l0_1.length c0_1] 25 (0, 0)) (kx BK190.out)) : gb193 ≠ gb190))
             replace BK190 := zm (kB (kx BK190.out) hb)
             clear hb hbox hg
             refine hK.out _ _ ⟨bc0 BK190.out, bc1 BK190.out⟩ (fun hHeld => ?_)
             clear hK K
             refine norm_ (a' := ?_) ?_ ?_
             rotate_left
             ·show Act.put _ (some 3) _ = _
              simp only [Act.put, sS, sZ, sC, i64_w, i32_w]
              rfl
             exact norm_ (by simp only [putAll, Act.put, sS, sZ, sC] <;> rfl) (hJ4 (gb193) _ ⟨hHeld, (kx BK190.out), (kx BK193.out), GW193.out, GE193.out, NB190_193.out, NB193_190.out, (bx HB.out)⟩)
            skip
            refine box_step ?hg (N := 4) ?hd (cs := #[.int .i64 0]) (t := 3) ?hr ?_; (case hd => rfl); (case hg => rfl); (case hr => first | (go_simp; done) | (go_simp; rfl))
            intro gb194 hg w8 hbox hb
            have BK194 := zm (hbox)
            have GW194 := zm ((by rw [hg]; exact (below_size (bx HB.out)) : w.heap.size ≤ gb194))
            have GE194 := zm ((by rw [hg]; exact (below_size (bx HB.out)) : w.heap.size ≤ gb194))
            replace HB := zm (below_step (bx HB.out) hb)
            have NB190_194 := zm ((by rw [hg]; exact Nat.ne_of_lt (blk_lt (g := gb190) (o := .cells #[.slice A0_0 l0_0.length c0_0, .slice A0_1 l0_1.length c0_1] 25 (0, 0)) (kx BK190.out)) : gb190 ≠ gb194))
            have NB194_190 := zm ((by rw [hg]; exact Nat.ne_of_gt (blk_lt (g := gb190) (o := .cells #[.slice A0_0 l0_0.length c0_0, .slice A0_1 l0_1.length c0_1] 25 (0, 0)) (kx BK190.out)) : gb194 ≠ gb190))
            replace BK190 := zm (kB (kx BK190.out) hb)
            clear hb hbox hg
            refine hK.out _ _ ⟨bc0 BK190.out, bc1 BK190.out⟩ (fun hHeld => ?_)
            clear hK K
            refine norm_ (a' := ?_) ?_ ?_
            rotate_left
            ·show Act.put _ (some 4) _ = _
             simp only [Act.put, sS, sZ, sC, i64_w, i32_w]
             rfl
            exact norm_ (by simp only [putAll, Act.put, sS, sZ, sC] <;> rfl) (hJ5 (gb194) _ ⟨hHeld, (kx BK190.out), (kx BK194.out), GW194.out, GE194.out, NB190_194.out, NB194_190.out, (bx HB.out)⟩)
           skip
           rintro gb194 w9 ⟨hS_, h0_, h1_, h2_, h3_, h4_, h5_, h6_⟩
           replace BK190 : Aside0 (w9.heap[gb190]? = some (.cells #[.slice A0_0 l0_0.length c0_0, .slice A0_1 l0_1.length c0_1] 25 (0, 0))) := ⟨h0_⟩
           have BK194 : Aside0 (w9.heap[gb194]? = some (.cells #[.int .i64 0] 3 (0, 0))) := ⟨h1_⟩
           have GW194 : Aside0 (w.heap.size ≤ gb194) := ⟨h2_⟩
           have GE194 : Aside0 (w.heap.size ≤ gb194) := ⟨h3_⟩
           have NB190_194 : Aside0 (gb190 ≠ gb194) := ⟨h4_⟩
           have NB194_190 : Aside0 (gb194 ≠ gb190) := ⟨h5_⟩
           replace HB : Aside0 (Below w.heap.size w w9) := ⟨h6_⟩
           clear h0_ h1_ h2_ h3_ h4_ h5_ h6_
           have hHeld : w9.cell? ⟨gb190, 0, none⟩ = some (.slice A0_0 l0_0.length c0_0) ∧ w9.cell? ⟨gb190, 1, none⟩ = some (.slice A0_1 l0_1.length c0_1) := hS_
           refine norm_ (a' := ?_) ?_ ?_
           rotate_left
           ·simp only [putAll, Act.put, sS, sZ, sC]
            rfl
           refine two_ (i := 1) (j := 4) (Ni := some 7) (Nj := some 3) #[Y,Y,Y,Z,Z,Y,Z,Z] #[Y,Z,Y,Z,Y,Y,Z,Z] rfl rfl rfl rfl (two_of HT_.out (by kernel_rfl)) (by decide) (by decide) (fun K hK => ?_) (fun K hK => ?_)
           ·skip
            refine goes_ Tryd.func15 (by kernel_rfl) rfl #[.agg #[.slice A0_0 l0_0.length c0_0, .slice A0_1 l0_1.length c0_1]] (by rfl) rfl rfl ag ?_
            with_reducible refine (net_Start.calls k _ _ l0_0 _ _ l0_1 t191 _ ?side1 ?side2 ?side3 ?side4 A2.out).mono ?_
            (case side1 => exact cx (Kd.C_below HR0_0.out HB.out))
            (case side2 => exact HC0_0.out)
            (case side3 => exact cx (Kd.C_below HR0_1.out HB.out))
            (case side4 => exact HC0_1.out)
            rintro e w10 ⟨rfl, hb⟩
            refine ⟨_, rfl, ?_⟩
            replace BK190 := zm (kB (kx BK190.out) hb)
            replace BK194 := zm (kB (kx BK194.out) hb)
            replace HB := zm (below_step (bx HB.out) hb)
            (try clear hb)
            (try clear hb2)
            (try clear hk)
            (try clear hi)
            refine hK.out _ _ ⟨bc0 BK190.out, bc1 BK190.out⟩ (fun hHeld => ?_)
            clear hK K
            refine norm_ (a' := ?_) ?_ ?_
            rotate_left
            ·show Act.put _ (some 7) _ = _
             simp only [Act.put, sS, sZ, sC, i64_w, i32_w]
             rfl
            exact norm_ (by simp only [putAll, Act.put, sS, sZ, sC] <;> rfl) (hJ1_5 (gb194) _ ⟨hHeld, (kx BK190.out), (kx BK194.out), GW194.out, GE194.out, NB190_194.out, NB194_190.out, (bx HB.out)⟩)
           skip
           refine box_step ?hg (N := 3) ?hd (cs := #[.int .i64 0]) (t := 3) ?hr ?_; (case hd => rfl); (case hg => rfl); (case hr => first | (go_simp; done) | (go_simp; rfl))
           intro gb193 hg w10 hbox hb
           have BK193 := zm (hbox)
           have GW193 := zm ((by rw [hg]; exact (below_size (bx HB.out)) : w.heap.size ≤ gb193))
           have GE193 := zm ((by rw [hg]; exact (below_size (bx HB.out)) : w.heap.size ≤ gb193))
           replace HB := zm (below_step (bx HB.out) hb)
           have NB190_193 := zm ((by rw [hg]; exact Nat.ne_of_lt (blk_lt (g := gb190) (o := .cells #[.slice A0_0 l0_0.length c0_0, .slice A0_1 l0_1.length c0_1] 25 (0, 0)) (kx BK190.out)) : gb190 ≠ gb193))
           have NB193_190 := zm ((by rw [hg]; exact Nat.ne_of_gt (blk_lt (g := gb190) (o := .cells #[.slice A0_0 l0_0.length c0_0, .slice A0_1 l0_1.length c0_1] 25 (0, 0)) (kx BK190.out)) : gb193 ≠ gb190))
           replace BK190 := zm (kB (kx BK190.out) hb)
           have NB194_193 := zm ((by rw [hg]; exact Nat.ne_of_lt (blk_lt (g := gb194) (o := .cells #[.int .i64 0] 3 (0, 0)) (kx BK194.out)) : gb194 ≠ gb193))
           have NB193_194 := zm ((by rw [hg]; exact Nat.ne_of_gt (blk_lt (g := gb194) (o := .cells #[.int .i64 0] 3 (0, 0)) (kx BK194.out)) : gb193 ≠ gb194))
           replace BK194 := zm (kB (kx BK194.out) hb)
           clear hb hbox hg
           refine hK.out _ _ ⟨bc0 BK190.out, bc1 BK190.out⟩ (fun hHeld => ?_)
           clear hK K
           refine norm_ (a' := ?_) ?_ ?_
           rotate_left
           ·show Act.put _ (some 3) _ = _
            simp only [Act.put, sS, sZ, sC, i64_w, i32_w]
            rfl
           exact norm_ (by simp only [putAll, Act.put, sS, sZ, sC] <;> rfl) (hJ4_5 (gb193, gb194) _ ⟨hHeld, (kx BK190.out), (kx BK193.out), (kx BK194.out), GW193.out, GE193.out, NB190_193.out, NB193_190.out, NB194_193.out, NB193_194.out, GW194.out, GE194.out, NB190_194.out, NB194_190.out, (bx HB.out)⟩)
          skip
          rintro gb193 w9 ⟨hS_, h0_, h1_, h2_, h3_, h4_, h5_, h6_⟩
          replace BK190 : Aside0 (w9.heap[gb190]? = some (.cells #[.slice A0_0 l0_0.length c0_0, .slice A0_1 l0_1.length c0_1] 25 (0, 0))) := ⟨h0_⟩
          have BK193 : Aside0 (w9.heap[gb193]? = some (.cells #[.int .i64 0] 3 (0, 0))) := ⟨h1_⟩
          have GW193 : Aside0 (w.heap.size ≤ gb193) := ⟨h2_⟩
          have GE193 : Aside0 (w.heap.size ≤ gb193) := ⟨h3_⟩
          have NB190_193 : Aside0 (gb190 ≠ gb193) := ⟨h4_⟩
          have NB193_190 : Aside0 (gb193 ≠ gb190) := ⟨h5_⟩
          replace HB : Aside0 (Below w.heap.size w w9) := ⟨h6_⟩
          clear h0_ h1_ h2_ h3_ h4_ h5_ h6_
          have hHeld : w9.cell? ⟨gb190, 0, none⟩ = some (.slice A0_0 l0_0.length c0_0) ∧ w9.cell? ⟨gb190, 1, none⟩ = some (.slice A0_1 l0_1.length c0_1) := hS_
          refine norm_ (a' := ?_) ?_ ?_
          rotate_left
          ·simp only [putAll, Act.put, sS, sZ, sC]
           rfl
          refine two_ (i := 1) (j := 5) (Ni := some 7) (Nj := some 4) #[Y,Y,Y,Z,Y,Z,Z,Z] #[Y,Z,Y,Z,Y,Y,Z,Z] rfl rfl rfl rfl (two_of HT_.out (by kernel_rfl)) (by decide) (by decide) (fun K hK => ?_) (fun K hK => ?_)
          ·skip
           refine goes_ Tryd.func15 (by kernel_rfl) rfl #[.agg #[.slice A0_0 l0_0.length c0_0, .slice A0_1 l0_1.length c0_1]] (by rfl) rfl rfl ag ?_
           with_reducible refine (net_Start.calls k _ _ l0_0 _ _ l0_1 t191 _ ?side1 ?side2 ?side3 ?side4 A2.out).mono ?_
           (case side1 => exact cx (Kd.C_below HR0_0.out HB.out))
           (case side2 => exact HC0_0.out)
           (case side3 => exact cx (Kd.C_below HR0_1.out HB.out))
           (case side4 => exact HC0_1.out)
           rintro e w10 ⟨rfl, hb⟩
           refine ⟨_, rfl, ?_⟩
           replace BK190 := zm (kB (kx BK190.out) hb)
           replace BK193 := zm (kB (kx BK193.out) hb)
           replace HB := zm (below_step (bx HB.out) hb)
           (try clear hb)
           (try clear hb2)
           (try clear hk)
           (try clear hi)
           refine hK.out _ _ ⟨bc0 BK190.out, bc1 BK190.out⟩ (fun hHeld => ?_)
           clear hK K
           refine norm_ (a' := ?_) ?_ ?_
           rotate_left
           ·show Act.put _ (some 7) _ = _
            simp only [Act.put, sS, sZ, sC, i64_w, i32_w]
            rfl
           exact norm_ (by simp only [putAll, Act.put, sS, sZ, sC] <;> rfl) (hJ1_4 (gb193) _ ⟨hHeld, (kx BK190.out), (kx BK193.out), GW193.out, GE193.out, NB190_193.out, NB193_190.out, (bx HB.out)⟩)
          skip
          refine box_step ?hg (N := 4) ?hd (cs := #[.int .i64 0]) (t := 3) ?hr ?_; (case hd => rfl); (case hg => rfl); (case hr => first | (go_simp; done) | (go_simp; rfl))
          intro gb194 hg w10 hbox hb
          have BK194 := zm (hbox)
          have GW194 := zm ((by rw [hg]; exact (below_size (bx HB.out)) : w.heap.size ≤ gb194))
          have GE194 := zm ((by rw [hg]; exact (below_size (bx HB.out)) : w.heap.size ≤ gb194))
          replace HB := zm (below_step (bx HB.out) hb)
          have NB190_194 := zm ((by rw [hg]; exact Nat.ne_of_lt (blk_lt (g := gb190) (o := .cells #[.slice A0_0 l0_0.length c0_0, .slice A0_1 l0_1.length c0_1] 25 (0, 0)) (kx BK190.out)) : gb190 ≠ gb194))
          have NB194_190 := zm ((by rw [hg]; exact Nat.ne_of_gt (blk_lt (g := gb190) (o := .cells #[.slice A0_0 l0_0.length c0_0, .slice A0_1 l0_1.length c0_1] 25 (0, 0)) (kx BK190.out)) : gb194 ≠ gb190))
          replace BK190 := zm (kB (kx BK190.out) hb)
          have NB193_194 := zm ((by rw [hg]; exact Nat.ne_of_lt (blk_lt (g := gb193) (o := .cells #[.int .i64 0] 3 (0, 0)) (kx BK193.out)) : gb193 ≠ gb194))
          have NB194_193 := zm ((by rw [hg]; exact Nat.ne_of_gt (blk_lt (g := gb193) (o := .cells #[.int .i64 0] 3 (0, 0)) (kx BK193.out)) : gb194 ≠ gb193))
          replace BK193 := zm (kB (kx BK193.out) hb)
          clear hb hbox hg
          refine hK.out _ _ ⟨bc0 BK190.out, bc1 BK190.out⟩ (fun hHeld => ?_)
          clear hK K
          refine norm_ (a' := ?_) ?_ ?_
          rotate_left
          ·show Act.put _ (some 4) _ = _
           simp only [Act.put, sS, sZ, sC, i64_w, i32_w]
           rfl
          exact norm_ (by simp only [putAll, Act.put, sS, sZ, sC] <;> rfl) (hJ4_5 (gb193, gb194) _ ⟨hHeld, (kx BK190.out), (kx BK193.out), (kx BK194.out), GW193.out, GE193.out, NB190_193.out, NB193_190.out, NB194_193.out, NB193_194.out, GW194.out, GE194.out, NB190_194.out, NB194_190.out, (bx HB.out)⟩)
         skip
         rintro _ w9 ⟨hS_, h0_, h1_⟩
         replace BK190 : Aside0 (w9.heap[gb190]? = some (.cells #[.slice A0_0 l0_0.length c0_0, .slice A0_1 l0_1.length c0_1] 25 (0, 0))) := ⟨h0_⟩
         replace HB : Aside0 (Below w.heap.size w w9) := ⟨h1_⟩
         clear h0_ h1_
         have hHeld : w9.cell? ⟨gb190, 0, none⟩ = some (.slice A0_0 l0_0.length c0_0) ∧ w9.cell? ⟨gb190, 1, none⟩ = some (.slice A0_1 l0_1.length c0_1) := hS_
         refine norm_ (a' := ?_) ?_ ?_
         rotate_left
         ·simp only [putAll, Act.put, sS, sZ, sC]
          rfl
         refine three_ (i := 3) (j := 4) (k := 5) (Ni := some 9) (Nj := some 3) (Nk := some 4) #[Y,Y,Y,Y,Z,Z,Z,Z] #[Y,Y,Y,Z,Y,Z,Z,Z] #[Y,Y,Y,Z,Z,Y,Z,Z] rfl rfl rfl rfl rfl rfl (three_of HT_.out (by kernel_rfl)) (by decide) (by decide) (by decide) (fun K hK => ?_) (fun K hK => ?_) (fun K hK => ?_)
         ·skip
          refine goes_ Tryd.func16 (by kernel_rfl) rfl #[.agg #[.slice A0_0 l0_0.length c0_0, .slice A0_1 l0_1.length c0_1]] (by rfl) rfl rfl ag ?_
          with_reducible refine (net_End.calls k _ _ l0_0 _ _ l0_1 t192 _ ?side1 ?side2 ?side3 ?side4 A3.out).mono ?_
          (case side1 => exact cx (Kd.C_below HR0_0.out HB.out))
          (case side2 => exact HC0_0.out)
          (case side3 => exact cx (Kd.C_below HR0_1.out HB.out))
          (case side4 => exact HC0_1.out)
          rintro e w10 ⟨rfl, hb⟩
          refine ⟨_, rfl, ?_⟩
          replace BK190 := zm (kB (kx BK190.out) hb)
          replace HB := zm (below_step (bx HB.out) hb)
          (try clear hb)
          (try clear hb2)
          (try clear hk)
          (try clear hi)
          refine hK.out _ _ ⟨bc0 BK190.out, bc1 BK190.out⟩ (fun hHeld => ?_)
          clear hK K
          refine norm_ (a' := ?_) ?_ ?_
          rotate_left
          ·show Act.put _ (some 9) _ = _
           simp only [Act.put, sS, sZ, sC, i64_w, i32_w]
           rfl
          exact norm_ (by simp only [putAll, Act.put, sS, sZ, sC] <;> rfl) (hJ1_3 () _ ⟨hHeld, (kx BK190.out), (bx HB.out)⟩)
         ·skip
          refine box_step ?hg (N := 3) ?hd (cs := #[.int .i64 0]) (t := 3) ?hr ?_; (case hd => rfl); (case hg => rfl); (case hr => first | (go_simp; done) | (go_simp; rfl))
          intro gb193 hg w10 hbox hb
          have BK193 := zm (hbox)
          have GW193 := zm ((by rw [hg]; exact (below_size (bx HB.out)) : w.heap.size ≤ gb193))
          have GE193 := zm ((by rw [hg]; exact (below_size (bx HB.out)) : w.heap.size ≤ gb193))
          replace HB := zm (below_step (bx HB.out) hb)
          have NB190_193 := zm ((by rw [hg]; exact Nat.ne_of_lt (blk_lt (g := gb190) (o := .cells #[.slice A0_0 l0_0.length c0_0, .slice A0_1 l0_1.length c0_1] 25 (0, 0)) (kx BK190.out)) : gb190 ≠ gb193))
          have NB193_190 := zm ((by rw [hg]; exact Nat.ne_of_gt (blk_lt (g := gb190) (o := .cells #[.slice A0_0 l0_0.length c0_0, .slice A0_1 l0_1.length c0_1] 25 (0, 0)) (kx BK190.out)) : gb193 ≠ gb190))
          replace BK190 := zm (kB (kx BK190.out) hb)
          clear hb hbox hg
          refine hK.out _ _ ⟨bc0 BK190.out, bc1 BK190.out⟩ (fun hHeld => ?_)
          clear hK K
          refine norm_ (a' := ?_) ?_ ?_
          rotate_left
          ·show Act.put _ (some 3) _ = _
           simp only [Act.put, sS, sZ, sC, i64_w, i32_w]
           rfl
          exact norm_ (by simp only [putAll, Act.put, sS, sZ, sC] <;> rfl) (hJ1_4 (gb193) _ ⟨hHeld, (kx BK190.out), (kx BK193.out), GW193.out, GE193.out, NB190_193.out, NB193_190.out, (bx HB.out)⟩)
         skip
         refine box_step ?hg (N := 4) ?hd (cs := #[.int .i64 0]) (t := 3) ?hr ?_; (case hd => rfl); (case hg => rfl); (case hr => first | (go_simp; done) | (go_simp; rfl))
         intro gb194 hg w10 hbox hb
         have BK194 := zm (hbox)
         have GW194 := zm ((by rw [hg]; exact (below_size (bx HB.out)) : w.heap.size ≤ gb194))
         have GE194 := zm ((by rw [hg]; exact (below_size (bx HB.out)) : w.heap.size ≤ gb194))
         replace HB := zm (below_step (bx HB.out) hb)
         have NB190_194 := zm ((by rw [hg]; exact Nat.ne_of_lt (blk_lt (g := gb190) (o := .cells #[.slice A0_0 l0_0.length c0_0, .slice A0_1 l0_1.length c0_1] 25 (0, 0)) (kx BK190.out)) : gb190 ≠ gb194))
         have NB194_190 := zm ((by rw [hg]; exact Nat.ne_of_gt (blk_lt (g := gb190) (o := .cells #[.slice A0_0 l0_0.length c0_0, .slice A0_1 l0_1.length c0_1] 25 (0, 0)) (kx BK190.out)) : gb194 ≠ gb190))
         replace BK190 := zm (kB (kx BK190.out) hb)
         clear hb hbox hg
         refine hK.out _ _ ⟨bc0 BK190.out, bc1 BK190.out⟩ (fun hHeld => ?_)
         clear hK K
         refine norm_ (a' := ?_) ?_ ?_
         rotate_left
         ·show Act.put _ (some 4) _ = _
          simp only [Act.put, sS, sZ, sC, i64_w, i32_w]
          rfl
         exact norm_ (by simp only [putAll, Act.put, sS, sZ, sC] <;> rfl) (hJ1_5 (gb194) _ ⟨hHeld, (kx BK190.out), (kx BK194.out), GW194.out, GE194.out, NB190_194.out, NB194_190.out, (bx HB.out)⟩)
        skip
        rintro ⟨gb193, gb194⟩ w10 ⟨hS_, h0_, h1_, h2_, h3_, h4_, h5_, h6_, h7_, h8_, h9_, h10_, h11_, h12_, h13_⟩
        replace BK190 : Aside0 (w10.heap[gb190]? = some (.cells #[.slice A0_0 l0_0.length c0_0, .slice A0_1 l0_1.length c0_1] 25 (0, 0))) := ⟨h0_⟩
        have BK193 : Aside0 (w10.heap[gb193]? = some (.cells #[.int .i64 0] 3 (0, 0))) := ⟨h1_⟩
        have BK194 : Aside0 (w10.heap[gb194]? = some (.cells #[.int .i64 0] 3 (0, 0))) := ⟨h2_⟩
        have GW193 : Aside0 (w.heap.size ≤ gb193) := ⟨h3_⟩
        have GE193 : Aside0 (w.heap.size ≤ gb193) := ⟨h4_⟩
        have NB190_193 : Aside0 (gb190 ≠ gb193) := ⟨h5_⟩
        have NB193_190 : Aside0 (gb193 ≠ gb190) := ⟨h6_⟩
        have NB194_193 : Aside0 (gb194 ≠ gb193) := ⟨h7_⟩
        have NB193_194 : Aside0 (gb193 ≠ gb194) := ⟨h8_⟩
        have GW194 : Aside0 (w.heap.size ≤ gb194) := ⟨h9_⟩
        have GE194 : Aside0 (w.heap.size ≤ gb194) := ⟨h10_⟩
        have NB190_194 : Aside0 (gb190 ≠ gb194) := ⟨h11_⟩
        have NB194_190 : Aside0 (gb194 ≠ gb190) := ⟨h12_⟩
        replace HB : Aside0 (Below w.heap.size w w10) := ⟨h13_⟩
        clear h0_ h1_ h2_ h3_ h4_ h5_ h6_ h7_ h8_ h9_ h10_ h11_ h12_ h13_
        have hHeld : w10.cell? ⟨gb190, 0, none⟩ = some (.slice A0_0 l0_0.length c0_0) ∧ w10.cell? ⟨gb190, 1, none⟩ = some (.slice A0_1 l0_1.length c0_1) := hS_
        refine norm_ (a' := ?_) ?_ ?_
        rotate_left
        ·simp only [putAll, Act.put, sS, sZ, sC]
         rfl
        refine one_ (i := 1) (N := some 7) #[Y,Y,Y,Z,Y,Y,Z,Z] rfl rfl (one_of HT_.out (by kernel_rfl)) (by decide) (fun K hK => ?_)
        refine goes_ Tryd.func15 (by kernel_rfl) rfl #[.agg #[.slice A0_0 l0_0.length c0_0, .slice A0_1 l0_1.length c0_1]] (by rfl) rfl rfl ag ?_
        with_reducible refine (net_Start.calls k _ _ l0_0 _ _ l0_1 t191 _ ?side1 ?side2 ?side3 ?side4 A2.out).mono ?_
        (case side1 => exact cx (Kd.C_below HR0_0.out HB.out))
        (case side2 => exact HC0_0.out)
        (case side3 => exact cx (Kd.C_below HR0_1.out HB.out))
        (case side4 => exact HC0_1.out)
        rintro e w11 ⟨rfl, hb⟩
        refine ⟨_, rfl, ?_⟩
        replace BK190 := zm (kB (kx BK190.out) hb)
        replace BK193 := zm (kB (kx BK193.out) hb)
        replace BK194 := zm (kB (kx BK194.out) hb)
        replace HB := zm (below_step (bx HB.out) hb)
        (try clear hb)
        (try clear hb2)
        (try clear hk)
        (try clear hi)
        refine hK.out _ _ ⟨bc0 BK190.out, bc1 BK190.out⟩ (fun hHeld => ?_)
        clear hK K
        refine norm_ (a' := ?_) ?_ ?_
        rotate_left
        ·show Act.put _ (some 7) _ = _
         simp only [Act.put, sS, sZ, sC, i64_w, i32_w]
         rfl
        exact norm_ (by simp only [putAll, Act.put, sS, sZ, sC] <;> rfl) (hJ1_4_5 (gb193, gb194) _ ⟨hHeld, (kx BK190.out), (kx BK193.out), (kx BK194.out), GW193.out, GE193.out, NB190_193.out, NB193_190.out, NB194_193.out, NB193_194.out, GW194.out, GE194.out, NB190_194.out, NB194_190.out, (bx HB.out)⟩)
       skip
       rintro gb194 w10 ⟨hS_, h0_, h1_, h2_, h3_, h4_, h5_, h6_⟩
       replace BK190 : Aside0 (w10.heap[gb190]? = some (.cells #[.slice A0_0 l0_0.length c0_0, .slice A0_1 l0_1.length c0_1] 25 (0, 0))) := ⟨h0_⟩
       have BK194 : Aside0 (w10.heap[gb194]? = some (.cells #[.int .i64 0] 3 (0, 0))) := ⟨h1_⟩
       have GW194 : Aside0 (w.heap.size ≤ gb194) := ⟨h2_⟩
       have GE194 : Aside0 (w.heap.size ≤ gb194) := ⟨h3_⟩
       have NB190_194 : Aside0 (gb190 ≠ gb194) := ⟨h4_⟩
       have NB194_190 : Aside0 (gb194 ≠ gb190) := ⟨h5_⟩
       replace HB : Aside0 (Below w.heap.size w w10) := ⟨h6_⟩
       clear h0_ h1_ h2_ h3_ h4_ h5_ h6_
       have hHeld : w10.cell? ⟨gb190, 0, none⟩ = some (.slice A0_0 l0_0.length c0_0) ∧ w10.cell? ⟨gb190, 1, none⟩ = some (.slice A0_1 l0_1.length c0_1) := hS_
       refine norm_ (a' := ?_) ?_ ?_
       rotate_left
       ·simp only [putAll, Act.put, sS, sZ, sC]
        rfl
       refine two_ (i := 3) (j := 4) (Ni := some 9) (Nj := some 3) #[Y,Y,Y,Y,Z,Y,Z,Z] #[Y,Y,Y,Z,Y,Y,Z,Z] rfl rfl rfl rfl (two_of HT_.out (by kernel_rfl)) (by decide) (by decide) (fun K hK => ?_) (fun K hK => ?_)
       ·skip
        refine goes_ Tryd.func16 (by kernel_rfl) rfl #[.agg #[.slice A0_0 l0_0.length c0_0, .slice A0_1 l0_1.length c0_1]] (by rfl) rfl rfl ag ?_
        with_reducible refine (net_End.calls k _ _ l0_0 _ _ l0_1 t192 _ ?side1 ?side2 ?side3 ?side4 A3.out).mono ?_
        (case side1 => exact cx (Kd.C_below HR0_0.out HB.out))
        (case side2 => exact HC0_0.out)
        (case side3 => exact cx (Kd.C_below HR0_1.out HB.out))
        (case side4 => exact HC0_1.out)
        rintro e w11 ⟨rfl, hb⟩
        refine ⟨_, rfl, ?_⟩
        replace BK190 := zm (kB (kx BK190.out) hb)
        replace BK194 := zm (kB (kx BK194.out) hb)
        replace HB := zm (below_step (bx HB.out) hb)
        (try clear hb)
        (try clear hb2)
        (try clear hk)
        (try clear hi)
        refine hK.out _ _ ⟨bc0 BK190.out, bc1 BK190.out⟩ (fun hHeld => ?_)
        clear hK K
        refine norm_ (a' := ?_) ?_ ?_
        rotate_left
        ·show Act.put _ (some 9) _ = _
         simp only [Act.put, sS, sZ, sC, i64_w, i32_w]
         rfl
        exact norm_ (by simp only [putAll, Act.put, sS, sZ, sC] <;> rfl) (hJ1_3_5 (gb194) _ ⟨hHeld, (kx BK190.out), (kx BK194.out), GW194.out, GE194.out, NB190_194.out, NB194_190.out, (bx HB.out)⟩)
       skip
       refine box_step ?hg (N := 3) ?hd (cs := #[.int .i64 0]) (t := 3) ?hr ?_; (case hd => rfl); (case hg => rfl); (case hr => first | (go_simp; done) | (go_simp; rfl))
       intro gb193 hg w11 hbox hb
       have BK193 := zm (hbox)
       have GW193 := zm ((by rw [hg]; exact (below_size (bx HB.out)) : w.heap.size ≤ gb193))
       have GE193 := zm ((by rw [hg]; exact (below_size (bx HB.out)) : w.heap.size ≤ gb193))
       replace HB := zm (below_step (bx HB.out) hb)
       have NB190_193 := zm ((by rw [hg]; exact Nat.ne_of_lt (blk_lt (g := gb190) (o := .cells #[.slice A0_0 l0_0.length c0_0, .slice A0_1 l0_1.length c0_1] 25 (0, 0)) (kx BK190.out)) : gb190 ≠ gb193))
       have NB193_190 := zm ((by rw [hg]; exact Nat.ne_of_gt (blk_lt (g := gb190) (o := .cells #[.slice A0_0 l0_0.length c0_0, .slice A0_1 l0_1.length c0_1] 25 (0, 0)) (kx BK190.out)) : gb193 ≠ gb190))
       replace BK190 := zm (kB (kx BK190.out) hb)
       have NB194_193 := zm ((by rw [hg]; exact Nat.ne_of_lt (blk_lt (g := gb194) (o := .cells #[.int .i64 0] 3 (0, 0)) (kx BK194.out)) : gb194 ≠ gb193))
       have NB193_194 := zm ((by rw [hg]; exact Nat.ne_of_gt (blk_lt (g := gb194) (o := .cells #[.int .i64 0] 3 (0, 0)) (kx BK194.out)) : gb193 ≠ gb194))
       replace BK194 := zm (kB (kx BK194.out) hb)
       clear hb hbox hg
       refine hK.out _ _ ⟨bc0 BK190.out, bc1 BK190.out⟩ (fun hHeld => ?_)
       clear hK K
       refine norm_ (a' := ?_) ?_ ?_
       rotate_left
       ·show Act.put _ (some 3) _ = _
        simp only [Act.put, sS, sZ, sC, i64_w, i32_w]
        rfl
       exact norm_ (by simp only [putAll, Act.put, sS, sZ, sC] <;> rfl) (hJ1_4_5 (gb193, gb194) _ ⟨hHeld, (kx BK190.out), (kx BK193.out), (kx BK194.out), GW193.out, GE193.out, NB190_193.out, NB193_190.out, NB194_193.out, NB193_194.out, GW194.out, GE194.out, NB190_194.out, NB194_190.out, (bx HB.out)⟩)
      skip
      rintro gb193 w10 ⟨hS_, h0_, h1_, h2_, h3_, h4_, h5_, h6_⟩
      replace BK190 : Aside0 (w10.heap[gb190]? = some (.cells #[.slice A0_0 l0_0.length c0_0, .slice A0_1 l0_1.length c0_1] 25 (0, 0))) := ⟨h0_⟩
      have BK193 : Aside0 (w10.heap[gb193]? = some (.cells #[.int .i64 0] 3 (0, 0))) := ⟨h1_⟩
      have GW193 : Aside0 (w.heap.size ≤ gb193) := ⟨h2_⟩
      have GE193 : Aside0 (w.heap.size ≤ gb193) := ⟨h3_⟩
      have NB190_193 : Aside0 (gb190 ≠ gb193) := ⟨h4_⟩
      have NB193_190 : Aside0 (gb193 ≠ gb190) := ⟨h5_⟩
      replace HB : Aside0 (Below w.heap.size w w10) := ⟨h6_⟩
      clear h0_ h1_ h2_ h3_ h4_ h5_ h6_
      have hHeld : w10.cell? ⟨gb190, 0, none⟩ = some (.slice A0_0 l0_0.length c0_0) ∧ w10.cell? ⟨gb190, 1, none⟩ = some (.slice A0_1 l0_1.length c0_1) := hS_
      refine norm_ (a' := ?_) ?_ ?_
      rotate_left
      ·simp only [putAll, Act.put, sS, sZ, sC]
       rfl
      refine two_ (i := 3) (j := 5) (Ni := some 9) (Nj := some 4) #[Y,Y,Y,Y,Y,Z,Z,Z] #[Y,Y,Y,Z,Y,Y,Z,Z] rfl rfl rfl rfl (two_of HT_.out (by kernel_rfl)) (by decide) (by decide) (fun K hK => ?_) (fun K hK => ?_)
      ·skip
       refine goes_ Tryd.func16 (by kernel_rfl) rfl #[.agg #[.slice A0_0 l0_0.length c0_0, .slice A0_1 l0_1.length c0_1]] (by rfl) rfl rfl ag ?_
       with_reducible refine (net_End.calls k _ _ l0_0 _ _ l0_1 t192 _ ?side1 ?side2 ?side3 ?side4 A3.out).mono ?_
       (case side1 => exact cx (Kd.C_below HR0_0.out HB.out))
       (case side2 => exact HC0_0.out)
       (case side3 => exact cx (Kd.C_below HR0_1.out HB.out))
       (case side4 => exact HC0_1.out)
       rintro e w11 ⟨rfl, hb⟩
       refine ⟨_, rfl, ?_⟩
       replace BK190 := zm (kB (kx BK190.out) hb)
       replace BK193 := zm (kB (kx BK193.out) hb)
       replace HB := zm (below_step (bx HB.out) hb)
       (try clear hb)
       (try clear hb2)
       (try clear hk)
       (try clear hi)
       refine hK.out _ _ ⟨bc0 BK190.out, bc1 BK190.out⟩ (fun hHeld => ?_)
       clear hK K
       refine norm_ (a' := ?_) ?_ ?_
       rotate_left
       ·show Act.put _ (some 9) _ = _
        simp only [Act.put, sS, sZ, sC, i64_w, i32_w]
        rfl
       exact norm_ (by simp only [putAll, Act.put, sS, sZ, sC] <;> rfl) (hJ1_3_4 (gb193) _ ⟨hHeld, (kx BK190.out), (kx BK193.out), GW193.out, GE193.out, NB190_193.out, NB193_190.out, (bx HB.out)⟩)
      skip
      refine box_step ?hg (N := 4) ?hd (cs := #[.int .i64 0]) (t := 3) ?hr ?_; (case hd => rfl); (case hg => rfl); (case hr => first | (go_simp; done) | (go_simp; rfl))
      intro gb194 hg w11 hbox hb
      have BK194 := zm (hbox)
      have GW194 := zm ((by rw [hg]; exact (below_size (bx HB.out)) : w.heap.size ≤ gb194))
      have GE194 := zm ((by rw [hg]; exact (below_size (bx HB.out)) : w.heap.size ≤ gb194))
      replace HB := zm (below_step (bx HB.out) hb)
      have NB190_194 := zm ((by rw [hg]; exact Nat.ne_of_lt (blk_lt (g := gb190) (o := .cells #[.slice A0_0 l0_0.length c0_0, .slice A0_1 l0_1.length c0_1] 25 (0, 0)) (kx BK190.out)) : gb190 ≠ gb194))
      have NB194_190 := zm ((by rw [hg]; exact Nat.ne_of_gt (blk_lt (g := gb190) (o := .cells #[.slice A0_0 l0_0.length c0_0, .slice A0_1 l0_1.length c0_1] 25 (0, 0)) (kx BK190.out)) : gb194 ≠ gb190))
      replace BK190 := zm (kB (kx BK190.out) hb)
      have NB193_194 := zm ((by rw [hg]; exact Nat.ne_of_lt (blk_lt (g := gb193) (o := .cells #[.int .i64 0] 3 (0, 0)) (kx BK193.out)) : gb193 ≠ gb194))
      have NB194_193 := zm ((by rw [hg]; exact Nat.ne_of_gt (blk_lt (g := gb193) (o := .cells #[.int .i64 0] 3 (0, 0)) (kx BK193.out)) : gb194 ≠ gb193))
      replace BK193 := zm (kB (kx BK193.out) hb)
      clear hb hbox hg
      refine hK.out _ _ ⟨bc0 BK190.out, bc1 BK190.out⟩ (fun hHeld => ?_)
      clear hK K
      refine norm_ (a' := ?_) ?_ ?_
      rotate_left
      ·show Act.put _ (some 4) _ = _
       simp only [Act.put, sS, sZ, sC, i64_w, i32_w]
       rfl
      exact norm_ (by simp only [putAll, Act.put, sS, sZ, sC] <;> rfl) (hJ1_4_5 (gb193, gb194) _ ⟨hHeld, (kx BK190.out), (kx BK193.out), (kx BK194.out), GW193.out, GE193.out, NB190_193.out, NB193_190.out, NB194_193.out, NB193_194.out, GW194.out, GE194.out, NB190_194.out, NB194_190.out, (bx HB.out)⟩)
     skip
     rintro _ w10 ⟨hS_, h0_, h1_⟩
     replace BK190 : Aside0 (w10.heap[gb190]? = some (.cells #[.slice A0_0 l0_0.length c0_0, .slice A0_1 l0_1.length c0_1] 25 (0, 0))) := ⟨h0_⟩
     replace HB : Aside0 (Below w.heap.size w w10) := ⟨h1_⟩
     clear h0_ h1_
     have hHeld : w10.cell? ⟨gb190, 0, none⟩ = some (.slice A0_0 l0_0.length c0_0) ∧ w10.cell? ⟨gb190, 1, none⟩ = some (.slice A0_1 l0_1.length c0_1) := hS_
     refine norm_ (a' := ?_) ?_ ?_
     rotate_left
     ·simp only [putAll, Act.put, sS, sZ, sC]
      rfl
     refine two_ (i := 4) (j := 5) (Ni := some 3) (Nj := some 4) #[Y,Y,Y,Y,Y,Z,Z,Z] #[Y,Y,Y,Y,Z,Y,Z,Z] rfl rfl rfl rfl (two_of HT_.out (by kernel_rfl)) (by decide) (by decide) (fun K hK => ?_) (fun K hK => ?_)
     ·skip
      refine box_step ?hg (N := 3) ?hd (cs := #[.int .i64 0]) (t := 3) ?hr ?_; (case hd => rfl); (case hg => rfl); (case hr => first | (go_simp; done) | (go_simp; rfl))
      intro gb193 hg w11 hbox hb
      have BK193 := zm (hbox)
      have GW193 := zm ((by rw [hg]; exact (below_size (bx HB.out)) : w.heap.size ≤ gb193))
      have GE193 := zm ((by rw [hg]; exact (below_size (bx HB.out)) : w.heap.size ≤ gb193))
      replace HB := zm (below_step (bx HB.out) hb)
      have NB190_193 := zm ((by rw [hg]; exact Nat.ne_of_lt (blk_lt (g := gb190) (o := .cells #[.slice A0_0 l0_0.length c0_0, .slice A0_1 l0_1.length c0_1] 25 (0, 0)) (kx BK190.out)) : gb190 ≠ gb193))
      have NB193_190 := zm ((by rw [hg]; exact Nat.ne_of_gt (blk_lt (g := gb190) (o := .cells #[.slice A0_0 l0_0.length c0_0, .slice A0_1 l0_1.length c0_1] 25 (0, 0)) (kx BK190.out)) : gb193 ≠ gb190))
      replace BK190 := zm (kB (kx BK190.out) hb)
      clear hb hbox hg
      refine hK.out _ _ ⟨bc0 BK190.out, bc1 BK190.out⟩ (fun hHeld => ?_)
      clear hK K
      refine norm_ (a' := ?_) ?_ ?_
      rotate_left
      ·show Act.put _ (some 3) _ = _
       simp only [Act.put, sS, sZ, sC, i64_w, i32_w]
       rfl
      exact norm_ (by simp only [putAll, Act.put, sS, sZ, sC] <;> rfl) (hJ1_3_4 (gb193) _ ⟨hHeld, (kx BK190.out), (kx BK193.out), GW193.out, GE193.out, NB190_193.out, NB193_190.out, (bx HB.out)⟩)
     skip
     refine box_step ?hg (N := 4) ?hd (cs := #[.int .i64 0]) (t := 3) ?hr ?_; (case hd => rfl); (case hg => rfl); (case hr => first | (go_simp; done) | (go_simp; rfl))
     intro gb194 hg w11 hbox hb
     have BK194 := zm (hbox)
     have GW194 := zm ((by rw [hg]; exact (below_size (bx HB.out)) : w.heap.size ≤ gb194))
     have GE194 := zm ((by rw [hg]; exact (below_size (bx HB.out)) : w.heap.size ≤ gb194))
     replace HB := zm (below_step (bx HB.out) hb)
     have NB190_194 := zm ((by rw [hg]; exact Nat.ne_of_lt (blk_lt (g := gb190) (o := .cells #[.slice A0_0 l0_0.length c0_0, .slice A0_1 l0_1.length c0_1] 25 (0, 0)) (kx BK190.out)) : gb190 ≠ gb194))
     have NB194_190 := zm ((by rw [hg]; exact Nat.ne_of_gt (blk_lt (g := gb190) (o := .cells #[.slice A0_0 l0_0.length c0_0, .slice A0_1 l0_1.length c0_1] 25 (0, 0)) (kx BK190.out)) : gb194 ≠ gb190))
     replace BK190 := zm (kB (kx BK190.out) hb)
     clear hb hbox hg
     refine hK.out _ _ ⟨bc0 BK190.out, bc1 BK190.out⟩ (fun hHeld => ?_)
     clear hK K
     refine norm_ (a' := ?_) ?_ ?_
     rotate_left
     ·show Act.put _ (some 4) _ = _
      simp only [Act.put, sS, sZ, sC, i64_w, i32_w]
      rfl
     exact norm_ (by simp only [putAll, Act.put, sS, sZ, sC] <;> rfl) (hJ1_3_5 (gb194) _ ⟨hHeld, (kx BK190.out), (kx BK194.out), GW194.out, GE194.out, NB190_194.out, NB194_190.out, (bx HB.out)⟩)
    skip
    rintro ⟨gb193, gb194⟩ w11 ⟨hS_, h0_, h1_, h2_, h3_, h4_, h5_, h6_, h7_, h8_, h9_, h10_, h11_, h12_, h13_⟩
    replace BK190 : Aside0 (w11.heap[gb190]? = some (.cells #[.slice A0_0 l0_0.length c0_0, .slice A0_1 l0_1.length c0_1] 25 (0, 0))) := ⟨h0_⟩
    have BK193 : Aside0 (w11.heap[gb193]? = some (.cells #[.int .i64 0] 3 (0, 0))) := ⟨h1_⟩
    have BK194 : Aside0 (w11.heap[gb194]? = some (.cells #[.int .i64 0] 3 (0, 0))) := ⟨h2_⟩
    have GW193 : Aside0 (w.heap.size ≤ gb193) := ⟨h3_⟩
    have GE193 : Aside0 (w.heap.size ≤ gb193) := ⟨h4_⟩
    have NB190_193 : Aside0 (gb190 ≠ gb193) := ⟨h5_⟩
    have NB193_190 : Aside0 (gb193 ≠ gb190) := ⟨h6_⟩
    have NB194_193 : Aside0 (gb194 ≠ gb193) := ⟨h7_⟩
    have NB193_194 : Aside0 (gb193 ≠ gb194) := ⟨h8_⟩
    have GW194 : Aside0 (w.heap.size ≤ gb194) := ⟨h9_⟩
    have GE194 : Aside0 (w.heap.size ≤ gb194) := ⟨h10_⟩
    have NB190_194 : Aside0 (gb190 ≠ gb194) := ⟨h11_⟩
    have NB194_190 : Aside0 (gb194 ≠ gb190) := ⟨h12_⟩
    replace HB : Aside0 (Below w.heap.size w w11) := ⟨h13_⟩
    clear h0_ h1_ h2_ h3_ h4_ h5_ h6_ h7_ h8_ h9_ h10_ h11_ h12_ h13_
    have hHeld : w11.cell? ⟨gb190, 0, none⟩ = some (.slice A0_0 l0_0.length c0_0) ∧ w11.cell? ⟨gb190, 1, none⟩ = some (.slice A0_1 l0_1.length c0_1) := hS_
    refine norm_ (a' := ?_) ?_ ?_
    rotate_left
    ·simp only [putAll, Act.put, sS, sZ, sC]
     rfl
    refine one_ (i := 3) (N := some 9) #[Y,Y,Y,Y,Y,Y,Z,Z] rfl rfl (one_of HT_.out (by kernel_rfl)) (by decide) (fun K hK => ?_)
    refine goes_ Tryd.func16 (by kernel_rfl) rfl #[.agg #[.slice A0_0 l0_0.length c0_0, .slice A0_1 l0_1.length c0_1]] (by rfl) rfl rfl ag ?_
    with_reducible refine (net_End.calls k _ _ l0_0 _ _ l0_1 t192 _ ?side1 ?side2 ?side3 ?side4 A3.out).mono ?_
    (case side1 => exact cx (Kd.C_below HR0_0.out HB.out))
    (case side2 => exact HC0_0.out)
    (case side3 => exact cx (Kd.C_below HR0_1.out HB.out))
    (case side4 => exact HC0_1.out)
    rintro e w12 ⟨rfl, hb⟩
    refine ⟨_, rfl, ?_⟩
    replace BK190 := zm (kB (kx BK190.out) hb)
    replace BK193 := zm (kB (kx BK193.out) hb)
    replace BK194 := zm (kB (kx BK194.out) hb)
    replace HB := zm (below_step (bx HB.out) hb)
    (try clear hb)
    (try clear hb2)
    (try clear hk)
    (try clear hi)
    refine hK.out _ _ ⟨bc0 BK190.out, bc1 BK190.out⟩ (fun hHeld => ?_)
    clear hK K
    refine norm_ (a' := ?_) ?_ ?_
    rotate_left
    ·show Act.put _ (some 9) _ = _
     simp only [Act.put, sS, sZ, sC, i64_w, i32_w]
     rfl
    exact norm_ (by simp only [putAll, Act.put, sS, sZ, sC] <;> rfl) (hJ1_3_4_5 (gb193, gb194) _ ⟨hHeld, (kx BK190.out), (kx BK193.out), (kx BK194.out), GW193.out, GE193.out, NB190_193.out, NB193_190.out, NB194_193.out, NB193_194.out, GW194.out, GE194.out, NB190_194.out, NB194_190.out, (bx HB.out)⟩)
   skip
   rintro gb194 w11 ⟨hS_, h0_, h1_, h2_, h3_, h4_, h5_, h6_⟩
   replace BK190 : Aside0 (w11.heap[gb190]? = some (.cells #[.slice A0_0 l0_0.length c0_0, .slice A0_1 l0_1.length c0_1] 25 (0, 0))) := ⟨h0_⟩
   have BK194 : Aside0 (w11.heap[gb194]? = some (.cells #[.int .i64 0] 3 (0, 0))) := ⟨h1_⟩
   have GW194 : Aside0 (w.heap.size ≤ gb194) := ⟨h2_⟩
   have GE194 : Aside0 (w.heap.size ≤ gb194) := ⟨h3_⟩
   have NB190_194 : Aside0 (gb190 ≠ gb194) := ⟨h4_⟩
   have NB194_190 : Aside0 (gb194 ≠ gb190) := ⟨h5_⟩
   replace HB : Aside0 (Below w.heap.size w w11) := ⟨h6_⟩
   clear h0_ h1_ h2_ h3_ h4_ h5_ h6_
   have hHeld : w11.cell? ⟨gb190, 0, none⟩ = some (.slice A0_0 l0_0.length c0_0) ∧ w11.cell? ⟨gb190, 1, none⟩ = some (.slice A0_1 l0_1.length c0_1) := hS_
   refine norm_ (a' := ?_) ?_ ?_
   rotate_left
   ·simp only [putAll, Act.put, sS, sZ, sC]
    rfl
   refine one_ (i := 4) (N := some 3) #[Y,Y,Y,Y,Y,Y,Z,Z] rfl rfl (one_of HT_.out (by kernel_rfl)) (by decide) (fun K hK => ?_)
   refine box_step ?hg (N := 3) ?hd (cs := #[.int .i64 0]) (t := 3) ?hr ?_; (case hd => rfl); (case hg => rfl); (case hr => first | (go_simp; done) | (go_simp; rfl))
   intro gb193 hg w12 hbox hb
   have BK193 := zm (hbox)
   have GW193 := zm ((by rw [hg]; exact (below_size (bx HB.out)) : w.heap.size ≤ gb193))
   have GE193 := zm ((by rw [hg]; exact (below_size (bx HB.out)) : w.heap.size ≤ gb193))
   replace HB := zm (below_step (bx HB.out) hb)
   have NB190_193 := zm ((by rw [hg]; exact Nat.ne_of_lt (blk_lt (g := gb190) (o := .cells #[.slice A0_0 l0_0.length c0_0, .slice A0_1 l0_1.length c0_1] 25 (0, 0)) (kx BK190.out)) : gb190 ≠ gb193))
   have NB193_190 := zm ((by rw [hg]; exact Nat.ne_of_gt (blk_lt (g := gb190) (o := .cells #[.slice A0_0 l0_0.length c0_0, .slice A0_1 l0_1.length c0_1] 25 (0, 0)) (kx BK190.out)) : gb193 ≠ gb190))
   replace BK190 := zm (kB (kx BK190.out) hb)
   have NB194_193 := zm ((by rw [hg]; exact Nat.ne_of_lt (blk_lt (g := gb194) (o := .cells #[.int .i64 0] 3 (0, 0)) (kx BK194.out)) : gb194 ≠ gb193))
   have NB193_194 := zm ((by rw [hg]; exact Nat.ne_of_gt (blk_lt (g := gb194) (o := .cells #[.int .i64 0] 3 (0, 0)) (kx BK194.out)) : gb193 ≠ gb194))
   replace BK194 := zm (kB (kx BK194.out) hb)
   clear hb hbox hg
   refine hK.out _ _ ⟨bc0 BK190.out, bc1 BK190.out⟩ (fun hHeld => ?_)
   clear hK K
   refine norm_ (a' := ?_) ?_ ?_
   rotate_left
   ·show Act.put _ (some 3) _ = _
    simp only [Act.put, sS, sZ, sC, i64_w, i32_w]
    rfl
   exact norm_ (by simp only [putAll, Act.put, sS, sZ, sC] <;> rfl) (hJ1_3_4_5 (gb193, gb194) _ ⟨hHeld, (kx BK190.out), (kx BK193.out), (kx BK194.out), GW193.out, GE193.out, NB190_193.out, NB193_190.out, NB194_193.out, NB193_194.out, GW194.out, GE194.out, NB190_194.out, NB194_190.out, (bx HB.out)⟩)
  skip
  rintro gb193 w11 ⟨hS_, h0_, h1_, h2_, h3_, h4_, h5_, h6_⟩
  replace BK190 : Aside0 (w11.heap[gb190]? = some (.cells #[.slice A0_0 l0_0.length c0_0, .slice A0_1 l0_1.length c0_1] 25 (0, 0))) := ⟨h0_⟩
  have BK193 : Aside0 (w11.heap[gb193]? = some (.cells #[.int .i64 0] 3 (0, 0))) := ⟨h1_⟩
  have GW193 : Aside0 (w.heap.size ≤ gb193) := ⟨h2_⟩
  have GE193 : Aside0 (w.heap.size ≤ gb193) := ⟨h3_⟩
  have NB190_193 : Aside0 (gb190 ≠ gb193) := ⟨h4_⟩
  have NB193_190 : Aside0 (gb193 ≠ gb190) := ⟨h5_⟩
  replace HB : Aside0 (Below w.heap.size w w11) := ⟨h6_⟩
  clear h0_ h1_ h2_ h3_ h4_ h5_ h6_
  have hHeld : w11.cell? ⟨gb190, 0, none⟩ = some (.slice A0_0 l0_0.length c0_0) ∧ w11.cell? ⟨gb190, 1, none⟩ = some (.slice A0_1 l0_1.length c0_1) := hS_
  refine norm_ (a' := ?_) ?_ ?_
  rotate_left
  ·simp only [putAll, Act.put, sS, sZ, sC]
   rfl
  refine one_ (i := 5) (N := some 4) #[Y,Y,Y,Y,Y,Y,Z,Z] rfl rfl (one_of HT_.out (by kernel_rfl)) (by decide) (fun K hK => ?_)
  refine box_step ?hg (N := 4) ?hd (cs := #[.int .i64 0]) (t := 3) ?hr ?_; (case hd => rfl); (case hg => rfl); (case hr => first | (go_simp; done) | (go_simp; rfl))
  intro gb194 hg w12 hbox hb
  have BK194 := zm (hbox)
  have GW194 := zm ((by rw [hg]; exact (below_size (bx HB.out)) : w.heap.size ≤ gb194))
  have GE194 := zm ((by rw [hg]; exact (below_size (bx HB.out)) : w.heap.size ≤ gb194))
  replace HB := zm (below_step (bx HB.out) hb)
  have NB190_194 := zm ((by rw [hg]; exact Nat.ne_of_lt (blk_lt (g := gb190) (o := .cells #[.slice A0_0 l0_0.length c0_0, .slice A0_1 l0_1.length c0_1] 25 (0, 0)) (kx BK190.out)) : gb190 ≠ gb194))
  have NB194_190 := zm ((by rw [hg]; exact Nat.ne_of_gt (blk_lt (g := gb190) (o := .cells #[.slice A0_0 l0_0.length c0_0, .slice A0_1 l0_1.length c0_1] 25 (0, 0)) (kx BK190.out)) : gb194 ≠ gb190))
  replace BK190 := zm (kB (kx BK190.out) hb)
  have NB193_194 := zm ((by rw [hg]; exact Nat.ne_of_lt (blk_lt (g := gb193) (o := .cells #[.int .i64 0] 3 (0, 0)) (kx BK193.out)) : gb193 ≠ gb194))
  have NB194_193 := zm ((by rw [hg]; exact Nat.ne_of_gt (blk_lt (g := gb193) (o := .cells #[.int .i64 0] 3 (0, 0)) (kx BK193.out)) : gb194 ≠ gb193))
  replace BK193 := zm (kB (kx BK193.out) hb)
  clear hb hbox hg
  refine hK.out _ _ ⟨bc0 BK190.out, bc1 BK190.out⟩ (fun hHeld => ?_)
  clear hK K
  refine norm_ (a' := ?_) ?_ ?_
  rotate_left
  ·show Act.put _ (some 4) _ = _
   simp only [Act.put, sS, sZ, sC, i64_w, i32_w]
   rfl
  exact norm_ (by simp only [putAll, Act.put, sS, sZ, sC] <;> rfl) (hJ1_3_4_5 (gb193, gb194) _ ⟨hHeld, (kx BK190.out), (kx BK193.out), (kx BK194.out), GW193.out, GE193.out, NB190_193.out, NB193_190.out, NB194_193.out, NB193_194.out, GW194.out, GE194.out, NB190_194.out, NB194_190.out, (bx HB.out)⟩)
 rintro ⟨gb193, gb194⟩ w12 ⟨hS_, h0_, h1_, h2_, h3_, h4_, h5_, h6_, h7_, h8_, h9_, h10_, h11_, h12_, h13_⟩
 replace BK190 : Aside0 (w12.heap[gb190]? = some (.cells #[.slice A0_0 l0_0.length c0_0, .slice A0_1 l0_1.length c0_1] 25 (0, 0))) := ⟨h0_⟩
 have BK193 : Aside0 (w12.heap[gb193]? = some (.cells #[.int .i64 0] 3 (0, 0))) := ⟨h1_⟩
 have BK194 : Aside0 (w12.heap[gb194]? = some (.cells #[.int .i64 0] 3 (0, 0))) := ⟨h2_⟩
 have GW193 : Aside0 (w.heap.size ≤ gb193) := ⟨h3_⟩
 have GE193 : Aside0 (w.heap.size ≤ gb193) := ⟨h4_⟩
 have NB190_193 : Aside0 (gb190 ≠ gb193) := ⟨h5_⟩
 have NB193_190 : Aside0 (gb193 ≠ gb190) := ⟨h6_⟩
 have NB194_193 : Aside0 (gb194 ≠ gb193) := ⟨h7_⟩
 have NB193_194 : Aside0 (gb193 ≠ gb194) := ⟨h8_⟩
 have GW194 : Aside0 (w.heap.size ≤ gb194) := ⟨h9_⟩
 have GE194 : Aside0 (w.heap.size ≤ gb194) := ⟨h10_⟩
 have NB190_194 : Aside0 (gb190 ≠ gb194) := ⟨h11_⟩
 have NB194_190 : Aside0 (gb194 ≠ gb190) := ⟨h12_⟩
 replace HB : Aside0 (Below w.heap.size w w12) := ⟨h13_⟩
 clear h0_ h1_ h2_ h3_ h4_ h5_ h6_ h7_ h8_ h9_ h10_ h11_ h12_ h13_
 have hHeld : w12.cell? ⟨gb190, 0, none⟩ = some (.slice A0_0 l0_0.length c0_0) ∧ w12.cell? ⟨gb190, 1, none⟩ = some (.slice A0_1 l0_1.length c0_1) := hS_
 refine norm_ (a' := ?_) ?_ ?_
 rotate_left
 ·simp only [putAll, Act.put, sS, sZ, sC]
  rfl
 refine one_ (i := 6) (N := none) #[Y,Y,Y,Y,Y,Y,Y,Z] rfl rfl (one_of HT_.out (by kernel_rfl)) (by decide) (fun K hK => ?_)
 have hs13 : w12.cell? ⟨gb193, 0, none⟩ = some (.int .i64 0) := bc0 BK193.out
 have hfs13 := bF BK193.out 0
 have hns13_0 := NB190_193.out
 have hns13_2 := NB194_193.out
 have hms13_0 := NB193_190.out
 have hms13_2 := NB193_194.out
 refine skip_ (w1 := ?_) (by rfl) rfl ?_ ?_
 rotate_left
 ·go_simp
  rfl
 refine hK.out _ _ ⟨((cell_far (p := ⟨gb193, _, none⟩) NB190_193.out _).trans (hHeld.1)), ((cell_far (p := ⟨gb193, _, none⟩) NB190_193.out _).trans (hHeld.2))⟩ (fun hHeld => ?_)
 clear hK K
 refine one_ (i := 7) (N := none) #[Y,Y,Y,Y,Y,Y,Y,Y] rfl rfl (one_of HT_.out (by kernel_rfl)) (by decide) (fun K hK => ?_)
 have hs14 : w12.cell? ⟨gb194, 0, none⟩ = some (.int .i64 0) := bc0 BK194.out
 have hfs14 := bF BK194.out 0
 have hns14_0 := NB190_194.out
 have hns14_1 := NB193_194.out
 have hms14_0 := NB194_190.out
 have hms14_1 := NB194_193.out
 refine skip_ (w1 := ?_) (by rfl) rfl ?_ ?_
 rotate_left
 ·go_simp
  rfl
 refine hK.out _ _ ⟨((cell_far (p := ⟨gb194, _, none⟩) NB190_194.out _).trans (hHeld.1)), ((cell_far (p := ⟨gb194, _, none⟩) NB190_194.out _).trans (hHeld.2))⟩ (fun hHeld => ?_)
 clear hK K
 refine done_ (done_of HT_.out (by kernel_rfl)) ?_
 have hnb15 := NB190_193.out
 have hnc15 := NB193_190.out
 have hnb16 := NB190_194.out
 have hnc16 := NB194_190.out
 have hcz17_0 := bc0 BK190.out
 have hcz17_1 := bc1 BK190.out
 have hfz17_0 := bF BK190.out 0
 have hfz17_1 := bF BK190.out 1
 go_upto_region 3 with (first | ((with_reducible refine gate_callee (f := 37) rfl ?_); refine goesL_ (some 14) rfl rfl Tryd.func37 (by kernel_rfl) rfl #[.int .i64 3, .int .i64 (l0_0.length : Int), .func (.func 54) #[] #[.pointer (some ⟨gb190, 0, none⟩), .pointer (some ⟨gb193, 0, none⟩), .pointer (some ⟨gb194, 0, none⟩)]] rfl ag ?_; (with_reducible refine (net_places.calls k 3 (l0_0.length : Int) _ _ _ t195 _ ?side1 ?side2 A4.out).mono ?_); (case side1 => exact fun args_ w_ => enters_ Tryd.func54 (by kernel_rfl) rfl args_ w_); (case side2 => exact net_third_1.ok (by (with_reducible repeat first | apply kN | apply kD | apply kA); refine blk_far ?_ NB190_194.out _; (with_reducible repeat first | apply kN | apply kD | apply kA); refine blk_far ?_ NB190_193.out _; (with_reducible repeat first | apply kN | apply kD | apply kA); exact BK190.out) (by exact Kd.C_below HR0_0.out (bx HB.out)) (by exact HC0_0.out) (by exact Kd.C_below HR0_1.out (bx HB.out)) (by exact HC0_1.out) (by (with_reducible repeat first | apply kN | apply kD | apply kA); refine blk_far ?_ NB193_194.out _; (with_reducible repeat first | apply kN | apply kD | apply kA); refine blk_put (cs := #[.int .i64 0]) ?_ 0 _ rfl; (with_reducible repeat first | apply kN | apply kD | apply kA); exact BK193.out) (by (with_reducible repeat first | apply kN | apply kD | apply kA); refine blk_put (cs := #[.int .i64 0]) ?_ 0 _ rfl; (with_reducible repeat first | apply kN | apply kD | apply kA); refine blk_far ?_ NB194_193.out _; (with_reducible repeat first | apply kN | apply kD | apply kA); exact BK194.out)); rintro e w18 ⟨v196, rfl, ho0, hb⟩; refine ⟨_, rfl, ?_⟩; have HO197 := zm (Kd.R_lower ho0 (below_size (bx HB.out))); replace BK190 := zm (kB (g := gb190) (o := .cells #[.slice A0_0 l0_0.length c0_0, .slice A0_1 l0_1.length c0_1] 25 (0, 0)) (by (with_reducible repeat first | apply kN | apply kD | apply kA); refine blk_far ?_ NB190_194.out _; (with_reducible repeat first | apply kN | apply kD | apply kA); refine blk_far ?_ NB190_193.out _; (with_reducible repeat first | apply kN | apply kD | apply kA); exact BK190.out) hb); replace BK193 := zm (kB (g := gb193) (o := .cells #[.int .i64 t191] 3 (0, 0)) (by (with_reducible repeat first | apply kN | apply kD | apply kA); refine blk_far ?_ NB193_194.out _; (with_reducible repeat first | apply kN | apply kD | apply kA); refine blk_put (cs := #[.int .i64 0]) ?_ 0 _ rfl; (with_reducible repeat first | apply kN | apply kD | apply kA); exact BK193.out) hb); replace BK194 := zm (kB (g := gb194) (o := .cells #[.int .i64 t192] 3 (0, 0)) (by (with_reducible repeat first | apply kN | apply kD | apply kA); refine blk_put (cs := #[.int .i64 0]) ?_ 0 _ rfl; (with_reducible repeat first | apply kN | apply kD | apply kA); refine blk_far ?_ NB194_193.out _; (with_reducible repeat first | apply kN | apply kD | apply kA); exact BK194.out) hb); replace HB := zm (below_step (bx HB.out) hb); (try clear hb); (try clear hb2); (try clear hk); (try clear hi); (try clear ho0)))
 have H := HC5.out
 clear HC5
 by_cases c19 : t191 < 0
 ·rw [if_pos c19] at H
  have c19b0 := decide_eq_true c19
  clear c19
  by_cases c20 : t195.length < 8796093022208
  ·rw [if_pos c20] at H
   have LMc20 := zm c20
   clear c20
   obtain ⟨y198, hy198⟩ : ∃ y_ : List (S47), y_ = (t195 ++ [(⟨3, (l0_0.length : Int)⟩ : S47)]) := ⟨_, rfl⟩
   replace H : (some y198) = some r := by first | (rw [hy198]; with_reducible exact H) | (have H2_ := (Option.bind_some _ _).symm.trans H; rw [hy198]; with_reducible exact H2_) | (have H2_ := (Option.bind_some _ _).symm.trans H; with_reducible exact H2_) | with_reducible exact H | (rw [hy198]; exact H) | exact H
   have Ny198 := zm hy198
   clear hy198
   obtain rfl := Option.some.inj H
   have hnb21 := NB193_190.out
   have hnc21 := NB190_193.out
   have hnb22 := NB193_194.out
   have hnc22 := NB194_193.out
   have hcz23_0 := bc0 BK193.out
   have hfz23_0 := bF BK193.out 0
   have hnb24 := NB190_194.out
   have hnc24 := NB194_190.out
   have hcz25_0 := bc0 BK190.out
   have hcz25_1 := bc1 BK190.out
   have hfz25_0 := bF BK190.out 0
   have hfz25_1 := bF BK190.out 1
   go_wp2_with (first | ((with_reducible refine gate_builtin (b := .append) (xs := #[.tmp 21, .tmp 26]) rfl ?_); at_builtin; refine Kd.R_append k47 (w0 := w) w.heap.size rfl (.tmp 21) (.tmp 26) 44 47 (.agg #[(.int .i64 0), (.int .i64 0)]) 16 rfl Tryd.underlying44 info47 rfl (by decide) (by omega) v196 t195 (⟨3, (l0_0.length : Int)⟩ : S47) [.int .i64 3, .int .i64 (l0_0.length : Int)] (fun _ => True) (fun _ => False) rfl rfl ?aP (fun _ hk => hk.elim) ?aF ?aO ?aB ?aS ?aL ?_; (case aP => exact k47_mkM _ _ _ (⟨3, (l0_0.length : Int)⟩ : S47)); (case aB => exact (bx HB.out)); (case aF => exact (fun _ _ => trivial)); (case aO => exact (rx HO197.out)); (case aS => exact (below_size (bx HB.out))); (case aL => have := LMc20.out; omega); intro v199 w26 ho hb hg hat; rw [← Ny198.out] at ho; replace BK190 := zm (blk_grown (g := gb190) (o := .cells #[.slice A0_0 l0_0.length c0_0, .slice A0_1 l0_1.length c0_1] 25 (0, 0)) (kx BK190.out) hg (Kd.R_ne HO197.out BK190.out (by decide))); replace BK193 := zm (blk_grown (g := gb193) (o := .cells #[.int .i64 t191] 3 (0, 0)) (kx BK193.out) hg (Kd.R_ne HO197.out BK193.out (by decide))); replace BK194 := zm (blk_grown (g := gb194) (o := .cells #[.int .i64 t192] 3 (0, 0)) (kx BK194.out) hg (Kd.R_ne HO197.out BK194.out (by decide))); replace HB := zm (hb); have HO200 := zm (ho); clear HO197 ho hb hg hat))
   go_ret
   exact ⟨_, xe, rx HO200.out, bx HB.out⟩
  rw [if_neg c20] at H
  exact absurd H (by simp)
 rw [if_neg c19] at H
 have c19b0 := decide_eq_false c19
 clear c19
 by_cases c27 : t192 < 0
 ·rw [if_pos c27] at H
  have c27b0 := decide_eq_true c27
  clear c27
  by_cases c28 : t195.length < 8796093022208
  ·rw [if_pos c28] at H
   have LMc28 := zm c28
   clear c28
   obtain ⟨y201, hy201⟩ : ∃ y_ : List (S47), y_ = (t195 ++ [(⟨3, (l0_0.length : Int)⟩ : S47)]) := ⟨_, rfl⟩
   replace H : (some y201) = some r := by first | (rw [hy201]; with_reducible exact H) | (have H2_ := (Option.bind_some _ _).symm.trans H; rw [hy201]; with_reducible exact H2_) | (have H2_ := (Option.bind_some _ _).symm.trans H; with_reducible exact H2_) | with_reducible exact H | (rw [hy201]; exact H) | exact H
   have Ny201 := zm hy201
   clear hy201
   obtain rfl := Option.some.inj H
   have hnb29 := NB193_190.out
   have hnc29 := NB190_193.out
   have hnb30 := NB193_194.out
   have hnc30 := NB194_193.out
   have hcz31_0 := bc0 BK193.out
   have hfz31_0 := bF BK193.out 0
   have hnb32 := NB194_190.out
   have hnc32 := NB190_194.out
   have hcz33_0 := bc0 BK194.out
   have hfz33_0 := bF BK194.out 0
   have hcz34_0 := bc0 BK190.out
   have hcz34_1 := bc1 BK190.out
   have hfz34_0 := bF BK190.out 0
   have hfz34_1 := bF BK190.out 1
   go_wp2_with (first | ((with_reducible refine gate_builtin (b := .append) (xs := #[.tmp 21, .tmp 26]) rfl ?_); at_builtin; refine Kd.R_append k47 (w0 := w) w.heap.size rfl (.tmp 21) (.tmp 26) 44 47 (.agg #[(.int .i64 0), (.int .i64 0)]) 16 rfl Tryd.underlying44 info47 rfl (by decide) (by omega) v196 t195 (⟨3, (l0_0.length : Int)⟩ : S47) [.int .i64 3, .int .i64 (l0_0.length : Int)] (fun _ => True) (fun _ => False) rfl rfl ?aP (fun _ hk => hk.elim) ?aF ?aO ?aB ?aS ?aL ?_; (case aP => exact k47_mkM _ _ _ (⟨3, (l0_0.length : Int)⟩ : S47)); (case aB => exact (bx HB.out)); (case aF => exact (fun _ _ => trivial)); (case aO => exact (rx HO197.out)); (case aS => exact (below_size (bx HB.out))); (case aL => have := LMc28.out; omega); intro v202 w35 ho hb hg hat; rw [← Ny201.out] at ho; replace BK190 := zm (blk_grown (g := gb190) (o := .cells #[.slice A0_0 l0_0.length c0_0, .slice A0_1 l0_1.length c0_1] 25 (0, 0)) (kx BK190.out) hg (Kd.R_ne HO197.out BK190.out (by decide))); replace BK193 := zm (blk_grown (g := gb193) (o := .cells #[.int .i64 t191] 3 (0, 0)) (kx BK193.out) hg (Kd.R_ne HO197.out BK193.out (by decide))); replace BK194 := zm (blk_grown (g := gb194) (o := .cells #[.int .i64 t192] 3 (0, 0)) (kx BK194.out) hg (Kd.R_ne HO197.out BK194.out (by decide))); replace HB := zm (hb); have HO203 := zm (ho); clear HO197 ho hb hg hat))
   go_ret
   exact ⟨_, xe, rx HO203.out, bx HB.out⟩
  rw [if_neg c28] at H
  exact absurd H (by simp)
 rw [if_neg c27] at H
 have c27b0 := decide_eq_false c27
 clear c27
 obtain rfl := Option.some.inj H
 have hnb36 := NB193_190.out
 have hnc36 := NB190_193.out
 have hnb37 := NB193_194.out
 have hnc37 := NB194_193.out
 have hcz38_0 := bc0 BK193.out
 have hfz38_0 := bF BK193.out 0
 have hnb39 := NB194_190.out
 have hnc39 := NB190_194.out
 have hcz40_0 := bc0 BK194.out
 have hfz40_0 := bF BK194.out 0
 go_wp2
 go_ret
 exact ⟨_, xe, rx HO197.out, bx HB.out⟩

end Go.Proofs.YtdaeiicdpfghlaaDoor.R
