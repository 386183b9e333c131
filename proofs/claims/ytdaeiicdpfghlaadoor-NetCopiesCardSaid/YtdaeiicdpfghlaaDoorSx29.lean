import Derived.Test.YtdaeiicdpfghlaaDoorSx0
import Derived.Test.YtdaeiicdpfghlaaDoorSx1
import Derived.Test.YtdaeiicdpfghlaaDoorSx11
import Derived.Test.YtdaeiicdpfghlaaDoorSx26
import Derived.Test.YtdaeiicdpfghlaaDoorSx28
namespace Go.Proofs.YtdaeiicdpfghlaaDoor.R
open Go.RowKit Go.Proofs.YtdaeiicdpfghlaaDoorW.PrintWords Go.Proofs.YtdaeiicdpfghlaaDoorW.PrintLast Go.Proofs.YtdaeiicdpfghlaaDoorW.PrintMore
attribute [local go_sem] max2_int min2_int max_two min_two max_three min_three max_four min_four   -- for this text's walks alone
set_option linter.unusedVariables false
set_option linter.unusedSimpArgs false

/-! What may be written to: whole numbers in some rows; nothing else changes. -/
def cI (w : World) (g j : Nat) : Prop := (∃ m, w.cell? ⟨g, j, none⟩ = some (.int .i64 m)) ∧ w.frozen? ⟨g, j, none⟩ = false
def KidF (w : World) (b1 b2 : Nat) (v : Value) (n : Nat) : Prop := ∃ A c, v = .slice A n c ∧ (0 < n → ∃ g, A = some ⟨g, 0, none⟩ ∧ b1 ≤ g ∧ g < b2 ∧ ∀ k, k < n → cI w g (k * 3))
def RowF (w : World) (b1 b2 sz so ko : Nat) (v : Value) (L : List Nat) : Prop := ∃ A c, v = .slice A L.length c ∧ (0 < L.length → ∃ g, A = some ⟨g, 0, none⟩ ∧ b1 ≤ g ∧ g < b2 ∧ ∀ i (h : i < L.length), cI w g (i * sz + so) ∧ ∃ u, w.cell? ⟨g, i * sz + ko, none⟩ = some u ∧ KidF w b1 b2 u L[i])
def OutF (b1 b2 : Nat) (w W : World) : Prop := ∀ k, (k < b1 ∨ b2 ≤ k) → W.heap[k]? = w.heap[k]?
theorem cI_set {w : World} {g j : Nat} {p : Addr} {m y : Int} (h : cI w g j) (hp : w.cell? p = some (.int .i64 m)) : cI (w.setCell p (.int .i64 y)) g j := by
 obtain ⟨⟨m2, h1⟩, h2⟩ := h
 refine ⟨?_, by rw [World.frozen?_setCell]; exact h2⟩
 by_cases e : p = ⟨g, j, none⟩
 ·rw [← e]; exact ⟨y, World.cell?_setCell_same _ _ _ hp⟩
 rw [World.cell?_setCell_other _ _ _ _ e]; exact ⟨m2, h1⟩
theorem sl_set {w : World} {a p : Addr} {A : Option Addr} {n c : Nat} {m y : Int} (h : w.cell? a = some (.slice A n c)) (hp : w.cell? p = some (.int .i64 m)) : (w.setCell p (.int .i64 y)).cell? a = some (.slice A n c) := by
 rw [World.cell?_setCell_other _ _ _ _ (by rintro rfl; rw [h] at hp; cases hp)]
 exact h
theorem KidF_set {w : World} {b1 b2 n : Nat} {v : Value} {p : Addr} {m y : Int} (h : KidF w b1 b2 v n) (hp : w.cell? p = some (.int .i64 m)) : KidF (w.setCell p (.int .i64 y)) b1 b2 v n := by
 obtain ⟨A, c, e, h⟩ := h
 refine ⟨A, c, e, fun h0 => ?_⟩
 obtain ⟨g, h1, h2, h3, h4⟩ := h h0
 exact ⟨g, h1, h2, h3, fun k hk => cI_set (h4 k hk) hp⟩
theorem RowF_set {w : World} {b1 b2 sz so ko : Nat} {v : Value} {L : List Nat} {p : Addr} {m y : Int} (h : RowF w b1 b2 sz so ko v L) (hp : w.cell? p = some (.int .i64 m)) : RowF (w.setCell p (.int .i64 y)) b1 b2 sz so ko v L := by
 obtain ⟨A, c, e, h⟩ := h
 refine ⟨A, c, e, fun h0 => ?_⟩
 obtain ⟨g, h1, h2, h3, h4⟩ := h h0
 refine ⟨g, h1, h2, h3, fun i hi => ?_⟩
 obtain ⟨h5, u, h6, h7⟩ := h4 i hi
 refine ⟨cI_set h5 hp, u, ?_, KidF_set h7 hp⟩
 obtain ⟨A2, c2, rfl, _⟩ := h7
 exact sl_set h6 hp
theorem cI_below {w W : World} {g j : Nat} (h : cI w g j) (hb : Below w.heap.size w W) : cI W g j := by
 obtain ⟨⟨m, h1⟩, h2⟩ := h
 have hl := World.block_lt_of_cell? w _ h1
 refine ⟨⟨m, (hb.cell hl).trans h1⟩, ?_⟩
 have e := hb.block g hl
 simp only [World.frozen?] at h2 ⊢
 rw [e]
 exact h2
theorem KidF_below {w W : World} {b1 b2 n : Nat} {v : Value} (h : KidF w b1 b2 v n) (hb : Below w.heap.size w W) : KidF W b1 b2 v n := by
 obtain ⟨A, c, e, h⟩ := h
 refine ⟨A, c, e, fun h0 => ?_⟩
 obtain ⟨g, h1, h2, h3, h4⟩ := h h0
 exact ⟨g, h1, h2, h3, fun k hk => cI_below (h4 k hk) hb⟩
theorem RowF_below {w W : World} {b1 b2 sz so ko : Nat} {v : Value} {L : List Nat} (h : RowF w b1 b2 sz so ko v L) (hb : Below w.heap.size w W) : RowF W b1 b2 sz so ko v L := by
 obtain ⟨A, c, e, h⟩ := h
 refine ⟨A, c, e, fun h0 => ?_⟩
 obtain ⟨g, h1, h2, h3, h4⟩ := h h0
 refine ⟨g, h1, h2, h3, fun i hi => ?_⟩
 obtain ⟨h5, u, h6, h7⟩ := h4 i hi
 exact ⟨cI_below h5 hb, u, (hb.cell (World.block_lt_of_cell? w _ h6)).trans h6, KidF_below h7 hb⟩
theorem KidF_of {w : World} {b1 : Nat} {ok : Nat → Prop} {v : Value} {xs : List S35} (h : k35.R 35 w b1 ok v xs) : KidF w b1 w.heap.size v xs.length := by
 obtain ⟨A, c, rfl⟩ := Kd.R_slice h
 refine ⟨A, c, rfl, fun h0 => ?_⟩
 obtain ⟨g, cap, e, h1, h2, _⟩ := Kd.R_form h h0
 injection e with e1 _ e3
 subst e1
 subst e3
 refine ⟨g, rfl, h1, h2, fun k hk => ?_⟩
 obtain ⟨cs, hl, hM, hc, hf⟩ := Kd.R_elem h z35 (k : Int) (by omega) (by omega)
 obtain ⟨v2, rfl, _⟩ := k35_openM hM
 exact ⟨⟨_, hc 0 _ rfl⟩, hf 0⟩
theorem RowF_nodes {w : World} {b1 : Nat} {ok : Nat → Prop} {v : Value} {xs : List S37} (h : k37.R 37 w b1 ok v xs) : RowF w b1 w.heap.size 5 0 4 v (xs.map fun x => x.f2.f2.length) := by
 obtain ⟨A, c, rfl⟩ := Kd.R_slice h
 refine ⟨A, c, by rw [List.length_map], fun h0 => ?_⟩
 rw [List.length_map] at h0
 obtain ⟨g, cap, e, h1, h2, _⟩ := Kd.R_form h h0
 injection e with e1 _ e3
 subst e1
 subst e3
 refine ⟨g, rfl, h1, h2, fun i hi => ?_⟩
 rw [List.length_map] at hi
 obtain ⟨cs, hl, hM, hc, hf⟩ := Kd.R_elem h z37 (i : Int) (by omega) (by omega)
 obtain ⟨v4, rfl, h4⟩ := k37_openM hM
 rw [show ((i : Int)).toNat = i from rfl, List.getD_eq_getElem?_getD, List.getElem?_eq_getElem hi] at h4
 refine ⟨⟨⟨_, hc 0 _ rfl⟩, hf 0⟩, v4, hc 4 _ rfl, ?_⟩
 rw [List.getElem_map]
 exact KidF_of h4
theorem RowF_flows {w : World} {b1 : Nat} {ok : Nat → Prop} {v : Value} {xs : List S53} (h : k53.R 53 w b1 ok v xs) : RowF w b1 w.heap.size 6 1 5 v (xs.map fun x => x.f3.f2.length) := by
 obtain ⟨A, c, rfl⟩ := Kd.R_slice h
 refine ⟨A, c, by rw [List.length_map], fun h0 => ?_⟩
 rw [List.length_map] at h0
 obtain ⟨g, cap, e, h1, h2, _⟩ := Kd.R_form h h0
 injection e with e1 _ e3
 subst e1
 subst e3
 refine ⟨g, rfl, h1, h2, fun i hi => ?_⟩
 rw [List.length_map] at hi
 obtain ⟨cs, hl, hM, hc, hf⟩ := Kd.R_elem h z53 (i : Int) (by omega) (by omega)
 obtain ⟨v5, rfl, h5⟩ := k53_openM hM
 rw [show ((i : Int)).toNat = i from rfl, List.getD_eq_getElem?_getD, List.getElem?_eq_getElem hi] at h5
 refine ⟨⟨⟨_, hc 1 _ rfl⟩, hf 1⟩, v5, hc 5 _ rfl, ?_⟩
 rw [List.getElem_map]
 exact KidF_of h5
theorem OutF_set {b1 b2 g j : Nat} {w W : World} {u : Value} (h : OutF b1 b2 w W) (h1 : b1 ≤ g) (h2 : g < b2) : OutF b1 b2 w (W.setCell ⟨g, j, none⟩ u) := fun k hk => (Below.heap_setCell W ⟨g, j, none⟩ u k (by show k ≠ g; omega)).trans (h k hk)
theorem R_out {α : Type} {d : Kd α} {e base b1 b2 : Nat} {w W : World} {ok : Nat → Prop} {v : Value} {xs : List α} (h : d.R e w base ok v xs) (ho : OutF b1 b2 w W) (hb : b2 ≤ base) : d.R e W base ok v xs := Kd.R_mono (Kd.R_step (Kd.R_bound h) (fun k hk _ => ho k (.inr (by omega)))) (fun _ hk => hk.1)
/-- All that goes along. -/
structure CopI (w0 w W : World) (b1 b2 : Nat) (vn vf : Value) (Ln Lf : List Nat) : Prop where
 out : OutF b1 b2 w W
 n : RowF W b1 b2 5 0 4 vn Ln
 f : RowF W b1 b2 6 1 5 vf Lf
 b : Below w0.heap.size w0 W
theorem CopI.set {w0 w W : World} {b1 b2 : Nat} {vn vf : Value} {Ln Lf : List Nat} (h : CopI w0 w W b1 b2 vn vf Ln Lf) {g j : Nat} {y : Int} (h0 : w0.heap.size ≤ b1) (h1 : b1 ≤ g) (h2 : g < b2) (hc : cI W g j) : CopI w0 w (W.setCell ⟨g, j, none⟩ (.int .i64 y)) b1 b2 vn vf Ln Lf := by
 obtain ⟨⟨m, hm⟩, _⟩ := hc
 exact ⟨OutF_set h.out h1 h2, RowF_set h.n hm, RowF_set h.f hm, below_set h.b (by omega)⟩
def cpOk (N : List S37) (F : List S53) : Bool := ((decide (N.length < 1000000) && decide (F.length < 1000000)) && N.all (fun x => decide (x.f2.f2.length < 1000000))) && F.all (fun x => decide (x.f3.f2.length < 1000000))
structure CpOk (N : List S37) (F : List S53) : Prop where
 a : N.length < 1000000
 b : F.length < 1000000
 c : ∀ i (h : i < N.length), N[i].f2.f2.length < 1000000
 d : ∀ i (h : i < F.length), F[i].f3.f2.length < 1000000
theorem CpOk.of {N : List S37} {F : List S53} (h : cpOk N F = true) : CpOk N F := by
 unfold cpOk at h
 simp only [Bool.and_eq_true, decide_eq_true_eq, List.all_eq_true] at h
 exact ⟨h.1.1.1, h.1.1.2, fun i hi => h.1.2 _ (List.getElem_mem hi), fun i hi => h.2 _ (List.getElem_mem hi)⟩
def treenaillaw05_NetCopies.f (k : Nat) (N : List S37) (F : List S53) : Option Bool := (treenaillaw05_large.f k N F).bind fun b => if b = true then treenaillaw05_line.f k else (net_Copy.f k N F).bind fun c => if cpOk c.1 c.2 = true then (net_Copy.f k N F).bind fun d => (treenailplain_Net.f k c.1 c.2 N F).bind fun s => if s = true then (treenailplain_Net.f k d.1 d.2 N F).bind fun t => if t = true then treenaillaw05_line.f k else some false else some false else none
theorem treenaillaw05_NetCopies.mono : ∀ a0 a1 k, LeO (treenaillaw05_NetCopies.f k a0 a1) (treenaillaw05_NetCopies.f (k + 1) a0 a1) := by
 intro N F k
 unfold treenaillaw05_NetCopies.f
 repeat' first
 | exact treenaillaw05_large.mono _ _ k
 | exact treenaillaw05_line.mono k
 | exact net_Copy.mono _ _ k
 | exact treenailplain_Net.mono _ _ _ _ k
 | exact LeO.refl _
 | refine LeO.ite ?_ ?_
 | refine LeO.bind ?_ (fun _ => ?_)
set_option maxHeartbeats 16000000 in
set_option maxRecDepth 100000 in
theorem treenaillaw05_NetCopies.calls (k : Nat) (A0_0 : Option Addr) (c0_0 : Nat) (l0_0 : List (S37)) (A0_1 : Option Addr) (c0_1 : Nat) (l0_1 : List (S53)) (r : Bool) (w : World) (hr0_0 : Kd.C k37 w A0_0 l0_0.length l0_0) (hc0_0 : l0_0.length ≤ c0_0) (hr0_1 : Kd.C k53 w A0_1 l0_1.length l0_1) (hc0_1 : l0_1.length ≤ c0_1) (h : treenaillaw05_NetCopies.f k l0_0 l0_1 = some r) (hT : Words.Tab w) :
  Calls Tryd.prog 8 #[.agg #[.slice A0_0 l0_0.length c0_0, .slice A0_1 l0_1.length c0_1]] w fun e w' => e = .returned (.bool r) ∧ Below w.heap.size w w' := by
 have HR0 := zm hr0_0
 have HC0 := zm hc0_0
 have HR1 := zm hr0_1
 have HC1 := zm hc0_1
 have HT := zm hT
 clear hr0_0 hc0_0 hr0_1 hc0_1 hT
 have hu := Tryd.underlying25
 unfold treenaillaw05_NetCopies.f at h
 obtain ⟨b, h1, h2⟩ := Option.bind_eq_some_iff.mp h
 clear h
 have H1 := zm h1
 clear h1
 cases b with
 | true =>
  rw [if_pos rfl] at h2
  have H2 := zm h2
  clear h2
  go_enter Tryd.func8, Tryd.ntmps8
  go_wp2_with (first | ((with_reducible refine gate_dst (N := 1) rfl ?_); refine box_event ?hg (N := 1) ?hd (cs := #[.slice A0_0 l0_0.length c0_0, .slice A0_1 l0_1.length c0_1]) (t := 25) ?hr ?_; (case hd => rfl); (case hg => rfl); (case hr => first | (go_simp; done) | (go_simp; rfl)); intro gb hg w2 hbox hb; have yn0 : w2.cell? ⟨gb, 0, none⟩ = some (.slice A0_0 l0_0.length c0_0) := bc0 hbox; have yn1 : w2.cell? ⟨gb, 1, none⟩ = some (.slice A0_1 l0_1.length c0_1) := bc1 hbox; have HB := zm hb; have G0 := zm hbox; clear hb hbox hg) | (go_at_call 9; refine (treenaillaw05_large.calls k A0_0 c0_0 l0_0 A0_1 c0_1 l0_1 true _ (Kd.C_below HR0.out HB.out) HC0.out (Kd.C_below HR1.out HB.out) HC1.out H1.out).mono ?_; rintro e w3 ⟨rfl, hb⟩; have n0_ := zm (below_step HB.out hb); have n1_ := zm (blk_below G0.out hb); clear HB G0 H1 yn0 yn1; have HB := n0_; have G0 := n1_; have yn0 : w3.cell? ⟨gb, 0, none⟩ = some (.slice A0_0 l0_0.length c0_0) := bc0 G0.out; have yn1 : w3.cell? ⟨gb, 1, none⟩ = some (.slice A0_1 l0_1.length c0_1) := bc1 G0.out; clear n0_ n1_ hb) | (go_at_call 10; refine (treenaillaw05_line.calls k r _ H2.out (Words.tab_below HT.out HB.out)).mono ?_; rintro e w4 ⟨rfl, hb⟩; have n0_ := zm (below_step HB.out hb); clear HB H2; have HB := n0_; clear n0_ hb))
  all_goals go_ret
  all_goals exact ⟨by first | rfl | (simp; done) | (simp [*]; done), (bx HB.out)⟩
 | false =>
  rw [if_neg (by decide)] at h2
  obtain ⟨⟨r1, r2⟩, h3, h4⟩ := Option.bind_eq_some_iff.mp h2
  clear h2
  by_cases hcp : cpOk r1 r2 = true
  rotate_left
  ·rw [if_neg hcp] at h4; cases h4
  rw [if_pos hcp] at h4
  have HS := zm (CpOk.of hcp)
  clear hcp
  obtain ⟨⟨r3, r4⟩, h5, h6⟩ := Option.bind_eq_some_iff.mp h4
  clear h4
  obtain ⟨s, h7, h8⟩ := Option.bind_eq_some_iff.mp h6
  clear h6
  have H3 := zm h3
  have H5 := zm h5
  have H7 := zm h7
  clear h3 h5 h7
  cases s with
  | false =>
   rw [if_neg (by decide)] at h8
   obtain rfl := Option.some.inj h8
   clear h8
   go_enter Tryd.func8, Tryd.ntmps8
   go_wp2_with (first | ((with_reducible refine gate_dst (N := 1) rfl ?_); refine box_event ?hg (N := 1) ?hd (cs := #[.slice A0_0 l0_0.length c0_0, .slice A0_1 l0_1.length c0_1]) (t := 25) ?hr ?_; (case hd => rfl); (case hg => rfl); (case hr => first | (go_simp; done) | (go_simp; rfl)); intro gb hg w2 hbox hb; have yn0 : w2.cell? ⟨gb, 0, none⟩ = some (.slice A0_0 l0_0.length c0_0) := bc0 hbox; have yn1 : w2.cell? ⟨gb, 1, none⟩ = some (.slice A0_1 l0_1.length c0_1) := bc1 hbox; have HB := zm hb; have G0 := zm hbox; clear hb hbox hg) | (go_at_call 9; refine (treenaillaw05_large.calls k A0_0 c0_0 l0_0 A0_1 c0_1 l0_1 false _ (Kd.C_below HR0.out HB.out) HC0.out (Kd.C_below HR1.out HB.out) HC1.out H1.out).mono ?_; rintro e w3 ⟨rfl, hb⟩; have n0_ := zm (below_step HB.out hb); have n1_ := zm (blk_below G0.out hb); clear HB G0 H1 yn0 yn1; have HB := n0_; have G0 := n1_; have yn0 : w3.cell? ⟨gb, 0, none⟩ = some (.slice A0_0 l0_0.length c0_0) := bc0 G0.out; have yn1 : w3.cell? ⟨gb, 1, none⟩ = some (.slice A0_1 l0_1.length c0_1) := bc1 G0.out; clear n0_ n1_ hb) | (go_at_call 25; refine (net_Copy.calls k A0_0 c0_0 l0_0 A0_1 c0_1 l0_1 r1 r2 _ (Kd.C_below HR0.out HB.out) HC0.out (Kd.C_below HR1.out HB.out) HC1.out H3.out).mono ?_; rintro e w4 ⟨vn, vf, rfl, hn, hf, hb⟩; obtain ⟨An, cn, rfl⟩ := Kd.R_slice hn; obtain ⟨Af, cf, rfl⟩ := Kd.R_slice hf; have GB := zm (below_size HB.out); have n0_ := zm (below_step HB.out hb); have n1_ := zm (blk_below G0.out hb); have GL := zm (blk_lt G0.out); clear HB G0 H3 yn0 yn1; have HB := n0_; have G0 := n1_; have HN := zm hn; have HF := zm hf; have RN := zm (RowF_nodes hn); have RF := zm (RowF_flows hf); have yn0 : ∀ o, (World.alloc w4 o).cell? ⟨gb, 0, none⟩ = some (.slice A0_0 l0_0.length c0_0) := (fun o => (blk_cell (blk_alloc G0.out o) 0).trans rfl); have yn1 : ∀ o, (World.alloc w4 o).cell? ⟨gb, 1, none⟩ = some (.slice A0_1 l0_1.length c0_1) := (fun o => (blk_cell (blk_alloc G0.out o) 1).trans rfl); clear n0_ n1_ hb hn hf) | (go_at_call 25; refine (net_Copy.calls k A0_0 c0_0 l0_0 A0_1 c0_1 l0_1 r3 r4 _ (Kd.C_alloc (Kd.C_below HR0.out HB.out) _) HC0.out (Kd.C_alloc (Kd.C_below HR1.out HB.out) _) HC1.out H5.out).mono ?_; rintro e w6 ⟨vn2, vf2, rfl, hn, hf, hb⟩; obtain ⟨An2, cn2, rfl⟩ := Kd.R_slice hn; obtain ⟨Af2, cf2, rfl⟩ := Kd.R_slice hf; have n0_ := zm (below_step (below_alloc HB.out _) hb); have n1_ := zm (blk_below (blk_alloc G0.out _) hb); have GC := zm (blk_below (blk_new w4 (.cells #[.slice An r1.length cn, .slice Af r2.length cf] 25)) hb); have n2_ := zm (Kd.R_below (Kd.R_alloc HN.out _) hb); have n3_ := zm (Kd.R_below (Kd.R_alloc HF.out _) hb); have n4_ := zm (RowF_below (RowF_below RN.out (below_alloc (Below.refl _ w4) (.cells #[.slice An r1.length cn, .slice Af r2.length cf] 25))) hb); have n5_ := zm (RowF_below (RowF_below RF.out (below_alloc (Below.refl _ w4) (.cells #[.slice An r1.length cn, .slice Af r2.length cf] 25))) hb); have GS := zm (below_size (below_alloc (Below.refl _ w4) (.cells #[.slice An r1.length cn, .slice Af r2.length cf] 25))); clear HB G0 H5 HN HF RN RF yn0 yn1; have HB := n0_; have G0 := n1_; have HN := n2_; have HF := n3_; have RN := n4_; have RF := n5_; have HN2 := zm hn; have HF2 := zm hf; have yn0 : ∀ o, (World.alloc w6 o).cell? ⟨gb, 0, none⟩ = some (.slice A0_0 l0_0.length c0_0) := (fun o => (blk_cell (blk_alloc G0.out o) 0).trans rfl); have yn1 : ∀ o, (World.alloc w6 o).cell? ⟨gb, 1, none⟩ = some (.slice A0_1 l0_1.length c0_1) := (fun o => (blk_cell (blk_alloc G0.out o) 1).trans rfl); have yc0 : ∀ o, (World.alloc w6 o).cell? ⟨w4.heap.size, 0, none⟩ = some (.slice An r1.length cn) := (fun o => (blk_cell (blk_alloc GC.out o) 0).trans rfl); have yc1 : ∀ o, (World.alloc w6 o).cell? ⟨w4.heap.size, 1, none⟩ = some (.slice Af r2.length cf) := (fun o => (blk_cell (blk_alloc GC.out o) 1).trans rfl); clear n0_ n1_ n2_ n3_ n4_ n5_ hb hn hf) | (go_at_call 26; refine (treenailplain_Net.calls k An cn r1 Af cf r2 A0_0 c0_0 l0_0 A0_1 c0_1 l0_1 false _ (Kd.R_reads' (Kd.R_alloc HN.out _)).2.2 (Kd.R_reads' HN.out).2.1 (Kd.R_reads' (Kd.R_alloc HF.out _)).2.2 (Kd.R_reads' HF.out).2.1 (Kd.C_alloc (Kd.C_below HR0.out HB.out) _) HC0.out (Kd.C_alloc (Kd.C_below HR1.out HB.out) _) HC1.out H7.out).mono ?_; rintro e w8 ⟨rfl, hb⟩; have n0_ := zm (below_step (below_alloc HB.out _) hb); have n1_ := zm (blk_below (blk_alloc G0.out _) hb); have n2_ := zm (blk_below (blk_alloc GC.out _) hb); have GD := zm (blk_below (blk_new w6 (.cells #[.slice An2 r3.length cn2, .slice Af2 r4.length cf2] 25)) hb); have n3_ := zm (Kd.R_below (Kd.R_alloc HN2.out _) hb); have n4_ := zm (Kd.R_below (Kd.R_alloc HF2.out _) hb); have n5_ := zm (RowF_below (RowF_below RN.out (below_alloc (Below.refl _ w6) (.cells #[.slice An2 r3.length cn2, .slice Af2 r4.length cf2] 25))) hb); have n6_ := zm (RowF_below (RowF_below RF.out (below_alloc (Below.refl _ w6) (.cells #[.slice An2 r3.length cn2, .slice Af2 r4.length cf2] 25))) hb); have GT := zm (show w4.heap.size ≤ w6.heap.size from Nat.le_of_lt (blk_lt GC.out)); clear HB G0 GC H7 HN HF HN2 HF2 RN RF yn0 yn1 yc0 yc1; have HB := n0_; have G0 := n1_; have GC := n2_; have HN2 := n3_; have HF2 := n4_; have RN := n5_; have RF := n6_; have yn0 : w8.cell? ⟨gb, 0, none⟩ = some (.slice A0_0 l0_0.length c0_0) := bc0 G0.out; have yn1 : w8.cell? ⟨gb, 1, none⟩ = some (.slice A0_1 l0_1.length c0_1) := bc1 G0.out; have yc0 : w8.cell? ⟨w4.heap.size, 0, none⟩ = some (.slice An r1.length cn) := bc0 GC.out; have yc1 : w8.cell? ⟨w4.heap.size, 1, none⟩ = some (.slice Af r2.length cf) := bc1 GC.out; clear n0_ n1_ n2_ n3_ n4_ n5_ n6_ hb))
   all_goals go_ret
   all_goals exact ⟨by first | rfl | (simp; done) | (simp [*]; done), (bx HB.out)⟩
  | true =>
   rw [if_pos rfl] at h8
   obtain ⟨t, h9, h10⟩ := Option.bind_eq_some_iff.mp h8
   clear h8
   have H9 := zm h9
   have H10 := zm h10
   clear h9 h10
   go_enter Tryd.func8, Tryd.ntmps8
   go_wp2_with (first | ((with_reducible refine gate_dst (N := 1) rfl ?_); refine box_event ?hg (N := 1) ?hd (cs := #[.slice A0_0 l0_0.length c0_0, .slice A0_1 l0_1.length c0_1]) (t := 25) ?hr ?_; (case hd => rfl); (case hg => rfl); (case hr => first | (go_simp; done) | (go_simp; rfl)); intro gb hg w2 hbox hb; have yn0 : w2.cell? ⟨gb, 0, none⟩ = some (.slice A0_0 l0_0.length c0_0) := bc0 hbox; have yn1 : w2.cell? ⟨gb, 1, none⟩ = some (.slice A0_1 l0_1.length c0_1) := bc1 hbox; have HB := zm hb; have G0 := zm hbox; clear hb hbox hg) | (go_at_call 9; refine (treenaillaw05_large.calls k A0_0 c0_0 l0_0 A0_1 c0_1 l0_1 false _ (Kd.C_below HR0.out HB.out) HC0.out (Kd.C_below HR1.out HB.out) HC1.out H1.out).mono ?_; rintro e w3 ⟨rfl, hb⟩; have n0_ := zm (below_step HB.out hb); have n1_ := zm (blk_below G0.out hb); clear HB G0 H1 yn0 yn1; have HB := n0_; have G0 := n1_; have yn0 : w3.cell? ⟨gb, 0, none⟩ = some (.slice A0_0 l0_0.length c0_0) := bc0 G0.out; have yn1 : w3.cell? ⟨gb, 1, none⟩ = some (.slice A0_1 l0_1.length c0_1) := bc1 G0.out; clear n0_ n1_ hb) | (go_at_call 25; refine (net_Copy.calls k A0_0 c0_0 l0_0 A0_1 c0_1 l0_1 r1 r2 _ (Kd.C_below HR0.out HB.out) HC0.out (Kd.C_below HR1.out HB.out) HC1.out H3.out).mono ?_; rintro e w4 ⟨vn, vf, rfl, hn, hf, hb⟩; obtain ⟨An, cn, rfl⟩ := Kd.R_slice hn; obtain ⟨Af, cf, rfl⟩ := Kd.R_slice hf; have GB := zm (below_size HB.out); have n0_ := zm (below_step HB.out hb); have n1_ := zm (blk_below G0.out hb); have GL := zm (blk_lt G0.out); clear HB G0 H3 yn0 yn1; have HB := n0_; have G0 := n1_; have HN := zm hn; have HF := zm hf; have RN := zm (RowF_nodes hn); have RF := zm (RowF_flows hf); have yn0 : ∀ o, (World.alloc w4 o).cell? ⟨gb, 0, none⟩ = some (.slice A0_0 l0_0.length c0_0) := (fun o => (blk_cell (blk_alloc G0.out o) 0).trans rfl); have yn1 : ∀ o, (World.alloc w4 o).cell? ⟨gb, 1, none⟩ = some (.slice A0_1 l0_1.length c0_1) := (fun o => (blk_cell (blk_alloc G0.out o) 1).trans rfl); clear n0_ n1_ hb hn hf) | (go_at_call 25; refine (net_Copy.calls k A0_0 c0_0 l0_0 A0_1 c0_1 l0_1 r3 r4 _ (Kd.C_alloc (Kd.C_below HR0.out HB.out) _) HC0.out (Kd.C_alloc (Kd.C_below HR1.out HB.out) _) HC1.out H5.out).mono ?_; rintro e w6 ⟨vn2, vf2, rfl, hn, hf, hb⟩; obtain ⟨An2, cn2, rfl⟩ := Kd.R_slice hn; obtain ⟨Af2, cf2, rfl⟩ := Kd.R_slice hf; have n0_ := zm (below_step (below_alloc HB.out _) hb); have n1_ := zm (blk_below (blk_alloc G0.out _) hb); have GC := zm (blk_below (blk_new w4 (.cells #[.slice An r1.length cn, .slice Af r2.length cf] 25)) hb); have n2_ := zm (Kd.R_below (Kd.R_alloc HN.out _) hb); have n3_ := zm (Kd.R_below (Kd.R_alloc HF.out _) hb); have n4_ := zm (RowF_below (RowF_below RN.out (below_alloc (Below.refl _ w4) (.cells #[.slice An r1.length cn, .slice Af r2.length cf] 25))) hb); have n5_ := zm (RowF_below (RowF_below RF.out (below_alloc (Below.refl _ w4) (.cells #[.slice An r1.length cn, .slice Af r2.length cf] 25))) hb); have GS := zm (below_size (below_alloc (Below.refl _ w4) (.cells #[.slice An r1.length cn, .slice Af r2.length cf] 25))); clear HB G0 H5 HN HF RN RF yn0 yn1; have HB := n0_; have G0 := n1_; have HN := n2_; have HF := n3_; have RN := n4_; have RF := n5_; have HN2 := zm hn; have HF2 := zm hf; have yn0 : ∀ o, (World.alloc w6 o).cell? ⟨gb, 0, none⟩ = some (.slice A0_0 l0_0.length c0_0) := (fun o => (blk_cell (blk_alloc G0.out o) 0).trans rfl); have yn1 : ∀ o, (World.alloc w6 o).cell? ⟨gb, 1, none⟩ = some (.slice A0_1 l0_1.length c0_1) := (fun o => (blk_cell (blk_alloc G0.out o) 1).trans rfl); have yc0 : ∀ o, (World.alloc w6 o).cell? ⟨w4.heap.size, 0, none⟩ = some (.slice An r1.length cn) := (fun o => (blk_cell (blk_alloc GC.out o) 0).trans rfl); have yc1 : ∀ o, (World.alloc w6 o).cell? ⟨w4.heap.size, 1, none⟩ = some (.slice Af r2.length cf) := (fun o => (blk_cell (blk_alloc GC.out o) 1).trans rfl); clear n0_ n1_ n2_ n3_ n4_ n5_ hb hn hf) | (go_at_call 26; refine (treenailplain_Net.calls k An cn r1 Af cf r2 A0_0 c0_0 l0_0 A0_1 c0_1 l0_1 true _ (Kd.R_reads' (Kd.R_alloc HN.out _)).2.2 (Kd.R_reads' HN.out).2.1 (Kd.R_reads' (Kd.R_alloc HF.out _)).2.2 (Kd.R_reads' HF.out).2.1 (Kd.C_alloc (Kd.C_below HR0.out HB.out) _) HC0.out (Kd.C_alloc (Kd.C_below HR1.out HB.out) _) HC1.out H7.out).mono ?_; rintro e w8 ⟨rfl, hb⟩; have n0_ := zm (below_step (below_alloc HB.out _) hb); have n1_ := zm (blk_below (blk_alloc G0.out _) hb); have n2_ := zm (blk_below (blk_alloc GC.out _) hb); have GD := zm (blk_below (blk_new w6 (.cells #[.slice An2 r3.length cn2, .slice Af2 r4.length cf2] 25)) hb); have n3_ := zm (Kd.R_below (Kd.R_alloc HN2.out _) hb); have n4_ := zm (Kd.R_below (Kd.R_alloc HF2.out _) hb); have n5_ := zm (RowF_below (RowF_below RN.out (below_alloc (Below.refl _ w6) (.cells #[.slice An2 r3.length cn2, .slice Af2 r4.length cf2] 25))) hb); have n6_ := zm (RowF_below (RowF_below RF.out (below_alloc (Below.refl _ w6) (.cells #[.slice An2 r3.length cn2, .slice Af2 r4.length cf2] 25))) hb); have GT := zm (show w4.heap.size ≤ w6.heap.size from Nat.le_of_lt (blk_lt GC.out)); clear HB G0 GC H7 HN HF HN2 HF2 RN RF yn0 yn1 yc0 yc1; have HB := n0_; have G0 := n1_; have GC := n2_; have HN2 := n3_; have HF2 := n4_; have RN := n5_; have RF := n6_; have yn0 : w8.cell? ⟨gb, 0, none⟩ = some (.slice A0_0 l0_0.length c0_0) := bc0 G0.out; have yn1 : w8.cell? ⟨gb, 1, none⟩ = some (.slice A0_1 l0_1.length c0_1) := bc1 G0.out; have yc0 : w8.cell? ⟨w4.heap.size, 0, none⟩ = some (.slice An r1.length cn) := bc0 GC.out; have yc1 : w8.cell? ⟨w4.heap.size, 1, none⟩ = some (.slice Af r2.length cf) := bc1 GC.out; clear n0_ n1_ n2_ n3_ n4_ n5_ n6_ hb))
   have I8 : CopI w w8 w8 w3.heap.size w4.heap.size (.slice An r1.length cn) (.slice Af r2.length cf) (r1.map fun x => x.f2.f2.length) (r2.map fun x => x.f3.f2.length) := ⟨fun _ _ => rfl, RN.out, RF.out, HB.out⟩
   have HI8 := zm I8
   clear I8 RN RF HB
   go_loopg [23] (r1.length + 1) (fun kq v w' => ∃ i : Nat, v = .int .i64 (i : Int) ∧ Aside0 (i ≤ r1.length) ∧ Aside0 (r1.length + 1 ≤ i + kq) ∧ Aside0 (CopI w w8 w' w3.heap.size w4.heap.size (.slice An r1.length cn) (.slice Af r2.length cf) (r1.map fun x => x.f2.f2.length) (r2.map fun x => x.f3.f2.length)))
   case atStart => exact ⟨0, rfl, ⟨by omega⟩, ⟨by omega⟩, HI8⟩
   clear HI8
   try clear yn0 yn1
   try clear yc0 yc1
   obtain ⟨i, rfl, Hi, HK, HI⟩ := hrel
   by_cases c : i < r1.length
   ·obtain ⟨g1, rfl⟩ : ∃ q, gk = q + 1 := ⟨gk - 1, by have := HK.out; omega⟩
    have cb : decide ((i : Int) < (r1.length : Int)) = true := decide_eq_true (by omega)
    have cb2 : decide (i < r1.length) = true := decide_eq_true c
    have C := zm c
    have p0 := eq_true (show (0 : Int) ≤ (i : Int) by omega)
    have q0 := eq_true (show (i : Int) < (r1.length : Int) by omega)
    have hw : IntKind.i64.wrap ((i : Int) + 1) = ((i + 1 : Nat) : Int) := by have := HS.out.a; rw [i64_w]; unfold Go.RowKit.wrap64; omega
    obtain ⟨A, c2, e, hrow⟩ := HI.out.n
    injection e with e1 e2 e3
    subst e1
    obtain ⟨g, e4, hg1, hg2, hel⟩ := hrow (by rw [List.length_map]; omega)
    subst e4
    obtain ⟨hci, u, hu, A2, c3, rfl, hkid⟩ := hel i (by rw [List.length_map]; exact c)
    have hmb := HS.out.c i c
    rw [List.getElem_map] at hu hkid
    generalize r1[i].f2.f2.length = m at hu hkid hmb
    have HM := zm hmb
    have HG1 := zm hg1
    have HG2 := zm hg2
    have HU0 := zm hu
    have HKF0 := zm (⟨A2, c3, rfl, hkid⟩ : KidF wr w3.heap.size w4.heap.size (.slice A2 m c3) m)
    have yb : wr.cell? ⟨w4.heap.size, 0, none⟩ = some (.slice (some ⟨g, 0, none⟩) r1.length cn) := (blk_cell ((HI.out.out w4.heap.size (.inr (Nat.le_refl _))).trans GC.out) 0).trans rfl
    clear hrow hel hci hkid hg1 hg2 e2 e3 hmb c
    go_wp2
    go_loopg [34] (m + 1) (fun kq v w' => ∃ j : Nat, v = .int .i64 (j : Int) ∧ Aside0 (j ≤ m) ∧ Aside0 (m + 1 ≤ j + kq) ∧ Aside0 (CopI w w8 w' w3.heap.size w4.heap.size (.slice (some ⟨g, 0, none⟩) r1.length cn) (.slice Af r2.length cf) (r1.map fun x => x.f2.f2.length) (r2.map fun x => x.f3.f2.length)) ∧ Aside0 (w'.cell? ⟨g, i * 5 + 4, none⟩ = some (.slice A2 m c3)) ∧ Aside0 (KidF w' w3.heap.size w4.heap.size (.slice A2 m c3) m))
    case atStart => exact ⟨0, rfl, ⟨by omega⟩, ⟨by omega⟩, HI, HU0, HKF0⟩
    clear HI HU0 HKF0 hu yb
    obtain ⟨j, rfl, Hj, HK2, HI2, HU, HKF⟩ := hrel
    have yb : wr.cell? ⟨w4.heap.size, 0, none⟩ = some (.slice (some ⟨g, 0, none⟩) r1.length cn) := (blk_cell ((HI2.out.out w4.heap.size (.inr (Nat.le_refl _))).trans GC.out) 0).trans rfl
    have hu := HU.out
    by_cases cj : j < m
    ·obtain ⟨g2, rfl⟩ : ∃ q, gk = q + 1 := ⟨gk - 1, by have := HK2.out; omega⟩
     have cjb : decide ((j : Int) < (m : Int)) = true := decide_eq_true (by omega)
     have cjb2 : decide (j < m) = true := decide_eq_true cj
     have p1 := eq_true (show (0 : Int) ≤ (j : Int) by omega)
     have q1 := eq_true (show (j : Int) < (m : Int) by omega)
     have hw2 : IntKind.i64.wrap ((j : Int) + 1) = ((j + 1 : Nat) : Int) := by have := HM.out; rw [i64_w]; unfold Go.RowKit.wrap64; omega
     obtain ⟨A3, c4, e5, hk2⟩ := HKF.out
     injection e5 with e6 e7 e8
     subst e6
     obtain ⟨gq, e9, hq1, hq2, hq3⟩ := hk2 (by omega)
     subst e9
     have HCI := zm (hq3 j cj)
     obtain ⟨⟨mv, hcell⟩, hfz⟩ := hq3 j cj
     have HQ1 := zm hq1
     have HQ2 := zm hq2
     have HCL := zm hcell
     clear hk2 hq3 hq1 hq2 e7 e8
     go_wp2
     go_roundg g2
     case measure => omega
     case rel => exact ⟨j + 1, by first | rfl | (simp [hw2]; done) | (simp; omega), ⟨by omega⟩, ⟨by have := HK2.out; omega⟩, ⟨HI2.out.set GB.out HQ1.out HQ2.out HCI.out⟩, ⟨sl_set HU.out HCL.out⟩, ⟨KidF_set HKF.out HCL.out⟩⟩
    have cjb : decide ((j : Int) < (m : Int)) = false := decide_eq_false (by omega)
    have cjb2 : decide (j < m) = false := decide_eq_false cj
    obtain ⟨A, c5, e, hrow⟩ := HI2.out.n
    injection e with e1 e2 e3
    subst e1
    obtain ⟨gg, e4, hg1, hg2, hel⟩ := hrow (by rw [List.length_map]; have := C.out; omega)
    injection e4 with e5
    injection e5 with e6
    subst e6
    obtain ⟨hci, _⟩ := hel i (by rw [List.length_map]; exact C.out)
    have HCI := zm hci
    obtain ⟨⟨mv, hcell⟩, hfz⟩ := hci
    clear hrow hel hg1 hg2 e2 e3
    try simp only [Nat.add_zero] at hcell hfz
    go_wp2
    go_roundg g1
    case measure => omega
    case rel => exact ⟨i + 1, by first | rfl | (simp [hw]; done) | (simp; omega), ⟨by have := C.out; omega⟩, ⟨by have := HK.out; omega⟩, ⟨HI2.out.set GB.out HG1.out HG2.out HCI.out⟩⟩
   have cb : decide ((i : Int) < (r1.length : Int)) = false := decide_eq_false (by omega)
   have cb2 : decide (i < r1.length) = false := decide_eq_false c
   have HI8 := HI
   have yb : wr.cell? ⟨w4.heap.size, 1, none⟩ = some (.slice Af r2.length cf) := (blk_cell ((HI.out.out w4.heap.size (.inr (Nat.le_refl _))).trans GC.out) 1).trans rfl
   clear HI Hi HK c
   go_wp2
   go_loopg [57] (r2.length + 1) (fun kq v w' => ∃ i : Nat, v = .int .i64 (i : Int) ∧ Aside0 (i ≤ r2.length) ∧ Aside0 (r2.length + 1 ≤ i + kq) ∧ Aside0 (CopI w w8 w' w3.heap.size w4.heap.size (.slice An r1.length cn) (.slice Af r2.length cf) (r1.map fun x => x.f2.f2.length) (r2.map fun x => x.f3.f2.length)))
   case atStart => exact ⟨0, rfl, ⟨by omega⟩, ⟨by omega⟩, HI8⟩
   clear HI8
   try clear yn0 yn1
   try clear yc0 yc1
   obtain ⟨i, rfl, Hi, HK, HI⟩ := hrel
   by_cases c : i < r2.length
   ·obtain ⟨g1, rfl⟩ : ∃ q, gk = q + 1 := ⟨gk - 1, by have := HK.out; omega⟩
    have cB : decide ((i : Int) < (r2.length : Int)) = true := decide_eq_true (by omega)
    have cB2 : decide (i < r2.length) = true := decide_eq_true c
    have C := zm c
    have p0 := eq_true (show (0 : Int) ≤ (i : Int) by omega)
    have q0 := eq_true (show (i : Int) < (r2.length : Int) by omega)
    have hw : IntKind.i64.wrap ((i : Int) + 1) = ((i + 1 : Nat) : Int) := by have := HS.out.b; rw [i64_w]; unfold Go.RowKit.wrap64; omega
    obtain ⟨A, c2, e, hrow⟩ := HI.out.f
    injection e with e1 e2 e3
    subst e1
    obtain ⟨g, e4, hg1, hg2, hel⟩ := hrow (by rw [List.length_map]; omega)
    subst e4
    obtain ⟨hci, u, hu, A2, c3, rfl, hkid⟩ := hel i (by rw [List.length_map]; exact c)
    have hmb := HS.out.d i c
    rw [List.getElem_map] at hu hkid
    generalize r2[i].f3.f2.length = m at hu hkid hmb
    have HM := zm hmb
    have HG1 := zm hg1
    have HG2 := zm hg2
    have HU0 := zm hu
    have HKF0 := zm (⟨A2, c3, rfl, hkid⟩ : KidF wr w3.heap.size w4.heap.size (.slice A2 m c3) m)
    have yb : wr.cell? ⟨w4.heap.size, 1, none⟩ = some (.slice (some ⟨g, 0, none⟩) r2.length cf) := (blk_cell ((HI.out.out w4.heap.size (.inr (Nat.le_refl _))).trans GC.out) 1).trans rfl
    clear hrow hel hci hkid hg1 hg2 e2 e3 hmb c
    go_wp2
    go_loopg [68] (m + 1) (fun kq v w' => ∃ j : Nat, v = .int .i64 (j : Int) ∧ Aside0 (j ≤ m) ∧ Aside0 (m + 1 ≤ j + kq) ∧ Aside0 (CopI w w8 w' w3.heap.size w4.heap.size (.slice An r1.length cn) (.slice (some ⟨g, 0, none⟩) r2.length cf) (r1.map fun x => x.f2.f2.length) (r2.map fun x => x.f3.f2.length)) ∧ Aside0 (w'.cell? ⟨g, i * 6 + 5, none⟩ = some (.slice A2 m c3)) ∧ Aside0 (KidF w' w3.heap.size w4.heap.size (.slice A2 m c3) m))
    case atStart => exact ⟨0, rfl, ⟨by omega⟩, ⟨by omega⟩, HI, HU0, HKF0⟩
    clear HI HU0 HKF0 hu yb
    obtain ⟨j, rfl, Hj, HK2, HI2, HU, HKF⟩ := hrel
    have yb : wr.cell? ⟨w4.heap.size, 1, none⟩ = some (.slice (some ⟨g, 0, none⟩) r2.length cf) := (blk_cell ((HI2.out.out w4.heap.size (.inr (Nat.le_refl _))).trans GC.out) 1).trans rfl
    have hu := HU.out
    by_cases cj : j < m
    ·obtain ⟨g2, rfl⟩ : ∃ q, gk = q + 1 := ⟨gk - 1, by have := HK2.out; omega⟩
     have cjb : decide ((j : Int) < (m : Int)) = true := decide_eq_true (by omega)
     have cjb2 : decide (j < m) = true := decide_eq_true cj
     have p1 := eq_true (show (0 : Int) ≤ (j : Int) by omega)
     have q1 := eq_true (show (j : Int) < (m : Int) by omega)
     have hw2 : IntKind.i64.wrap ((j : Int) + 1) = ((j + 1 : Nat) : Int) := by have := HM.out; rw [i64_w]; unfold Go.RowKit.wrap64; omega
     obtain ⟨A3, c4, e5, hk2⟩ := HKF.out
     injection e5 with e6 e7 e8
     subst e6
     obtain ⟨gq, e9, hq1, hq2, hq3⟩ := hk2 (by omega)
     subst e9
     have HCI := zm (hq3 j cj)
     obtain ⟨⟨mv, hcell⟩, hfz⟩ := hq3 j cj
     have HQ1 := zm hq1
     have HQ2 := zm hq2
     have HCL := zm hcell
     clear hk2 hq3 hq1 hq2 e7 e8
     go_wp2
     go_roundg g2
     case measure => omega
     case rel => exact ⟨j + 1, by first | rfl | (simp [hw2]; done) | (simp; omega), ⟨by omega⟩, ⟨by have := HK2.out; omega⟩, ⟨HI2.out.set GB.out HQ1.out HQ2.out HCI.out⟩, ⟨sl_set HU.out HCL.out⟩, ⟨KidF_set HKF.out HCL.out⟩⟩
    have cjb : decide ((j : Int) < (m : Int)) = false := decide_eq_false (by omega)
    have cjb2 : decide (j < m) = false := decide_eq_false cj
    obtain ⟨A, c5, e, hrow⟩ := HI2.out.f
    injection e with e1 e2 e3
    subst e1
    obtain ⟨gg, e4, hg1, hg2, hel⟩ := hrow (by rw [List.length_map]; have := C.out; omega)
    injection e4 with e5
    injection e5 with e6
    subst e6
    obtain ⟨hci, _⟩ := hel i (by rw [List.length_map]; exact C.out)
    have HCI := zm hci
    obtain ⟨⟨mv, hcell⟩, hfz⟩ := hci
    clear hrow hel hg1 hg2 e2 e3
    try simp only [Nat.add_zero] at hcell hfz
    go_wp2
    go_roundg g1
    case measure => omega
    case rel => exact ⟨i + 1, by first | rfl | (simp [hw]; done) | (simp; omega), ⟨by have := C.out; omega⟩, ⟨by have := HK.out; omega⟩, ⟨HI2.out.set GB.out HG1.out HG2.out HCI.out⟩⟩
   have cB : decide ((i : Int) < (r2.length : Int)) = false := decide_eq_false (by omega)
   have cB2 : decide (i < r2.length) = false := decide_eq_false c
   have yn0 : wr.cell? ⟨gb, 0, none⟩ = some (.slice A0_0 l0_0.length c0_0) := (blk_cell ((HI.out.out gb (.inl GL.out)).trans G0.out) 0).trans rfl
   have yn1 : wr.cell? ⟨gb, 1, none⟩ = some (.slice A0_1 l0_1.length c0_1) := (blk_cell ((HI.out.out gb (.inl GL.out)).trans G0.out) 1).trans rfl
   have yd0 : wr.cell? ⟨w6.heap.size, 0, none⟩ = some (.slice An2 r3.length cn2) := (blk_cell ((HI.out.out w6.heap.size (.inr GT.out)).trans GD.out) 0).trans rfl
   have yd1 : wr.cell? ⟨w6.heap.size, 1, none⟩ = some (.slice Af2 r4.length cf2) := (blk_cell ((HI.out.out w6.heap.size (.inr GT.out)).trans GD.out) 1).trans rfl
   have HX1 := zm (R_out HN2.out HI.out.out GS.out)
   have HX2 := zm (R_out HF2.out HI.out.out GS.out)
   have HB := zm HI.out.b
   clear HI Hi HK c HN2 HF2 G0 GC GD
   cases t with
   | false =>
    have h10 := H10.out
    rw [if_neg (by decide)] at h10
    obtain rfl := Option.some.inj h10
    clear h10 H10
    go_wp2_with (first | (go_at_call 26; refine (treenailplain_Net.calls k An2 cn2 r3 Af2 cf2 r4 A0_0 c0_0 l0_0 A0_1 c0_1 l0_1 false _ (Kd.R_reads' HX1.out).2.2 (Kd.R_reads' HX1.out).2.1 (Kd.R_reads' HX2.out).2.2 (Kd.R_reads' HX2.out).2.1 (Kd.C_below HR0.out HB.out) HC0.out (Kd.C_below HR1.out HB.out) HC1.out H9.out).mono ?_; rintro e w9 ⟨rfl, hb⟩; have n0_ := zm (below_step HB.out hb); clear HB H9; have HB := n0_; clear n0_ hb))
    all_goals go_ret
    all_goals exact ⟨by first | rfl | (simp; done) | (simp [*]; done), (bx HB.out)⟩
   | true =>
    have h10 := H10.out
    rw [if_pos rfl] at h10
    have H11 := zm h10
    clear h10 H10
    go_wp2_with (first | (go_at_call 26; refine (treenailplain_Net.calls k An2 cn2 r3 Af2 cf2 r4 A0_0 c0_0 l0_0 A0_1 c0_1 l0_1 true _ (Kd.R_reads' HX1.out).2.2 (Kd.R_reads' HX1.out).2.1 (Kd.R_reads' HX2.out).2.2 (Kd.R_reads' HX2.out).2.1 (Kd.C_below HR0.out HB.out) HC0.out (Kd.C_below HR1.out HB.out) HC1.out H9.out).mono ?_; rintro e w9 ⟨rfl, hb⟩; have n0_ := zm (below_step HB.out hb); clear HB H9; have HB := n0_; clear n0_ hb) | (go_at_call 10; refine (treenaillaw05_line.calls k r _ H11.out (Words.tab_below HT.out HB.out)).mono ?_; rintro e w10 ⟨rfl, hb⟩; have n0_ := zm (below_step HB.out hb); clear HB; have HB := n0_; clear n0_ hb))
    all_goals go_ret
    all_goals exact ⟨by first | rfl | (simp; done) | (simp [*]; done), (bx HB.out)⟩

end Go.Proofs.YtdaeiicdpfghlaaDoor.R
