/- The row of DeadOrders, and its card: the law's function, at every argument, answers true, by the walk over plain data. -/
import Derived.Test.YthodghlpcklaeaaDoorMe
import Derived.Test.YthodghlpcklaeaaDoorPa
import Derived.Test.YthodghlpcklaeaaDoorRows
import Derived.WalkKit
import Derived.ProofKit
import Derived.OpenShut
import Derived.ShutString
import Derived.ChangeOld
import Derived.Below
import Derived.SizedLaws
import Derived.Carry
import Derived.LaidMore
import Derived.Stop.Joined
import Derived.SevenTiedAt
import Derived.Test.YthodghlpcklaeaaDoorCards
import Derived.Test.YthodghlpcklaeaaDoorTie
namespace Go.Proofs.YthodghlpcklaeaaDoor.deadOrders
open Go.ChangeShapes Go.WideShapes Go.ChangeAt Go.RowKit Go.Eng
open Go.ChangeMaps (open_string shut_string)
set_option linter.unusedVariables false
set_option linter.unusedSimpArgs false
theorem own : ownKnob Tryd.prog.godebug = none := by kernel_rfl
theorem laidOut : laidOutB Tryd.prog = true := by kernel_rfl
theorem door_met (os : Os) (args : Array Value) : laidMetH Tryd.prog [("treenail/term.words", Rows.laid_treenail_term_words)] ((World.doorLaid Tryd.prog 400 os).forCall (fun _ _ => 0) ⟨#[], args, []⟩).memory :=
  laidMetH_of_parts3 (fuel := 8) (laidMet_of_run' 8 (by kernel_rfl) (by kernel_rfl)) (by kernel_rfl) (by kernel_rfl)
set_option maxRecDepth 100000 in
theorem lifted (os : Os) (started : os.Started) (H : Type) (enc : TypeId × Value → H) :
    ReturnsInHanded {} Tryd.checked os 4 .any (fun w args => (Rows.deadOrdersSpec.pre enc Tryd.prog Tryd.f4 [] false w args ∧ laidMetH Tryd.prog [("treenail/term.words", Rows.laid_treenail_term_words)] w) ∧ sizedMet enc Tryd.prog Tryd.f4 (OpenSpec.ofChange Rows.deadOrdersSpec) false w args) (Rows.deadOrdersSpec.post enc Tryd.prog Tryd.f4 false true false false) := by
  refine returnsInHanded_of_change_and (C := Tryd.checked) (X := fun w _ => laidMetH Tryd.prog [("treenail/term.words", Rows.laid_treenail_term_words)] w) (fun _ _ _ hh h => h.of_heap hh) own started (by kernel_rfl) Tryd.func4
    (ChangeSpec.witness_shaped (enc := enc) (C := Tryd.checked) (os := os) (X := fun w _ => laidMetH Tryd.prog [("treenail/term.words", Rows.laid_treenail_term_words)] w) false (World.doorLaid Tryd.prog 400 os) #[.agg #[.int .i64 0, .int .i64 0, .int .i64 0, .int .i64 0, .int .i64 0, .int .i64 0, .slice none 0 0, .slice none 0 0, .slice none 0 0, .slice none 0 0, .slice none 0 0, .slice none 0 0], .slice none 0 0, .agg #[.int .i64 0, .int .i64 0]] 8 rfl (World.shaped_of_RefB (by kernel_rfl) (by kernel_rfl)) (by kernel_rfl) (by kernel_rfl) (by kernel_rfl) (door_met os _)) ?_
  intro W base args ds gs before hval0 hW hcnd hsz0 hL _
  have hsz : (DataW.weightsEach Tryd.prog (Tryd.f4.params.toList ++ Rows.deadOrdersSpec.plain.varTypes Tryd.prog) (ds ++ gs)).all (· ≤ reachBytes) = true := hsz0
  have hval : ∀ (j : Nat) t v, Tryd.f4.params[j]? = some t → args[j]? = some v → Value.okWide Tryd.prog W .any base t v := hval0
  have hW' := hW
  obtain ⟨p, q, hA0, hV, rfl, hfz, hnd⟩ := hW
  have hA : DataW.TrodAll enc Tryd.prog W 0 (fun _ => true) true Tryd.f4.params.toList args.toList ds p := hA0
  rw [Tryd.params4] at hA hval hsz
  obtain ⟨v0, vs0, d0, ds0, p0, q0, hargs0, rfl, rfl, h0, r0⟩ := trodAll_cons hA
  obtain ⟨v1, vs1, d1, ds1, p1, q1, hargs1, rfl, rfl, h1, r1⟩ := trodAll_cons r0
  obtain ⟨v2, vs2, d2, ds2, p2, q2, hargs2, rfl, rfl, h2, r2⟩ := trodAll_cons r1
  obtain ⟨rfl, rfl, rfl⟩ := trodAll_nil r2
  obtain rfl : args = #[v0, v1, v2] := by cases args; simp_all
  obtain ⟨rfl, rfl⟩ := trodVars_none hV
  obtain ⟨cs0, rfl, _⟩ := okWide_struct Tryd.underlying32 (hval 0 32 v0 rfl rfl)
  have k0 := h0
  have lt0 : ∀ x ∈ p0, x.block < W.heap.size := by obtain ⟨m, hm⟩ := k0; exact DataW.trod_lt m _ _ _ hm
  obtain ⟨a0, K0, _⟩ := openedD (F := fun k => k < W.heap.size) (opD_B (fun a u h => cell_lt h)) h0 hsz (j := 0) rfl rfl
  have V0 : VA (B0 W).x a0.a (.agg cs0) := by
    have K : RdL W (B0 W).x.F a0.row cs0.toList := K0
    rw [B.row_eq] at K
    exact rd_agg K
  obtain ⟨sl1, ln1, cp1, rfl⟩ := okWide_slice Tryd.underlying33 (hval 1 33 v1 rfl rfl)
  have k1 := h1
  have lt1 : ∀ x ∈ p1, x.block < W.heap.size := by obtain ⟨m, hm⟩ := k1; exact DataW.trod_lt m _ _ _ hm
  obtain ⟨a1, K1, O1⟩ := openedD (F := fun k => k < W.heap.size) (fun n => opD_slice (s := 1) (B := 8) (rd := iRow) (fun a u h => cell_lt h) Tryd.underlying33 (by kernel_rfl) (by kernel_rfl) (by decide) (fun a => rfl) (fun m' _ => opD_int Tryd.underlying3)) h1 hsz (j := 1) rfl rfl
  have V1 : VA (B0 W).x (aF (a1.map iRow)) (.slice sl1 ln1 cp1) := rd_one K1
  obtain ⟨cs2, rfl, _⟩ := okWide_array Tryd.underlying50 (hval 2 50 v2 rfl rfl)
  have k2 := h2
  have lt2 : ∀ x ∈ p2, x.block < W.heap.size := by obtain ⟨m, hm⟩ := k2; exact DataW.trod_lt m _ _ _ hm
  obtain ⟨b2, K2, _⟩ := openedD (F := fun k => k < W.heap.size) opD_Tw h2 hsz (j := 2) rfl rfl
  have V2 : VA (B0 W).x (twA b2.1 b2.2) (.agg cs2) := va_Tw K2
  clear hA0 hval0 hsz0 hsz
  have hT : TR (B0 W).x [a0.a, aF (a1.map iRow), twA b2.1 b2.2] #[.agg cs0, .slice sl1 ln1 cp1, .agg cs2] := ⟨rfl, fun i a hi => by
    match i, hi with
    | 0, hi => cases hi; exact ⟨_, rfl, V0⟩
    | 1, hi => cases hi; exact ⟨_, rfl, V1⟩
    | 2, hi => cases hi; exact ⟨_, rfl, V2⟩
    | i + 3, hi => simp at hi⟩
  refine (run_true (E := env) (lawO_ok a0 a1 b2.1 b2.2 (by have := O1.1; omega)) (base_ok hL) hT).mono fun e W' hbel => ?_
  obtain ⟨he, bel0⟩ := hbel
  have bel := bel0
  subst he
  exact ⟨_, rfl, _, _, _, [], _, [], hW', trodAll_mk1 (shut_bool Tryd.underlying4 _), (trodAll_cons_mk (Below.trod laidOut (by kernel_rfl) (of_decide_eq_true (by kernel_rfl)) k0 bel lt0) (trodAll_cons_mk (Below.trod laidOut (by kernel_rfl) (of_decide_eq_true (by kernel_rfl)) k1 bel lt1) (trodAll_cons_mk (Below.trod laidOut (by kernel_rfl) (of_decide_eq_true (by kernel_rfl)) k2 bel lt2) trodAll_mk0))), rfl, bel.frame _, fun h => by cases h⟩
theorem over : Rows.deadOrdersRow.holds Tryd.pinned (OpenSpec.ofChange Rows.deadOrdersSpec) :=
  OpenClaim.holds_of_wide 4 Tryd.f4 rfl rfl rfl rfl rfl rfl rfl ⟨rfl, rfl, rfl, rfl, rfl⟩ rfl rfl rfl rfl rfl (by kernel_rfl) Tryd.func4 (by kernel_rfl)
    (of_decide_eq_true (by kernel_rfl)) (by unfold Func.isWrapper; first | (rw [if_pos (by decide +kernel)]; kernel_rfl) | (rw [if_neg (by decide +kernel)]; exact ⟨rfl, rfl⟩))
    (fun os started H enc _ => lifted os started H enc)
theorem card : Claim7.holds Tryd.pinned (.plain (OpenSpec.ofChange Rows.deadOrdersSpec)) Rows.deadOrdersCard :=
  Claim7.holds_tied_plain_at .later [] [.widerDeep] true (true, "7c0682ca06236c3e8cb02a065b554307d20d3ad95d05bddf9224fdfcfead9850") false
    over (fun _ h => by cases h) (by kernel_rfl) (fun _ h => by cases h) deadOrders_row_tie rfl ⟨rfl, rfl⟩ (by kernel_rfl) rfl
    (fun f fn hf hfn => by
      obtain rfl : f = 4 := Option.some.inj ((show Tryd.prog.funcNamed "treenail/treenaillaw19.DeadOrders" = some 4 by kernel_rfl).symm.trans hf) |>.symm
      obtain rfl : fn = Tryd.f4 := (Option.some.inj (Tryd.func4.symm.trans hfn)).symm
      exact ⟨by kernel_rfl, fun j t ht => by
        rw [Tryd.params4] at ht
        have hm : t ∈ [32, 33, 50] := by simpa using Array.mem_of_getElem? ht
        have hall : ([32, 33, 50].all fun u => !Tryd.prog.wantsStandIn u) = true := by kernel_rfl
        exact (show Tryd.prog.wantsStandIn t = false by simpa using List.all_eq_true.1 hall t hm)⟩)
    (by kernel_rfl)
theorem proved : Rows.DeadOrdersCardSaid := card
#print axioms proved
end Go.Proofs.YthodghlpcklaeaaDoor.deadOrders
namespace Go.Proofs.YthodghlpcklaeaaDoor
/-- The card, under a short name, for the claim. -/
theorem deadOrders_holds : Rows.DeadOrdersCardSaid := deadOrders.proved
end Go.Proofs.YthodghlpcklaeaaDoor
