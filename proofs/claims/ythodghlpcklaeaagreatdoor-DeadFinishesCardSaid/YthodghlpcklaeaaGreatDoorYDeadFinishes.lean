/- The row of DeadFinishes, and its card: the law's function, at every argument, answers true, by the walk over plain data. -/
import Derived.Test.YthodghlpcklaeaaGreatDoorMg
import Derived.Test.YthodghlpcklaeaaGreatDoorPa
import Derived.Test.YthodghlpcklaeaaGreatDoorRows
import Derived.WalkKit
import Derived.ProofKit
import Derived.OpenShut
import Derived.ShutString
import Derived.ChangeOld
import Derived.Below
import Derived.SizedLaws
import Derived.Carry
import Derived.LaidMore
import Derived.Stop.Joined
import Derived.SevenTiedAt
import Derived.Test.YthodghlpcklaeaaGreatDoorCards
import Derived.Test.YthodghlpcklaeaaGreatDoorTie
namespace Go.Proofs.YthodghlpcklaeaaGreatDoor.deadFinishes
open Go.ChangeShapes Go.WideShapes Go.ChangeAt Go.RowKit Go.Eng
open Go.ChangeMaps (open_string shut_string)
set_option linter.unusedVariables false
set_option linter.unusedSimpArgs false
theorem own : ownKnob Tryz.prog.godebug = none := by kernel_rfl
theorem laidOut : laidOutB Tryz.prog = true := by kernel_rfl
theorem door_met (os : Os) (args : Array Value) : laidMetH Tryz.prog [("treenail/term.words", Rows.laid_treenail_term_words)] ((World.doorLaid Tryz.prog 400 os).forCall (fun _ _ => 0) ⟨#[], args, []⟩).memory :=
  laidMetH_of_parts3 (fuel := 8) (laidMet_of_run' 8 (by kernel_rfl) (by kernel_rfl)) (by kernel_rfl) (by kernel_rfl)
set_option maxRecDepth 100000 in
theorem lifted (os : Os) (started : os.Started) (H : Type) (enc : TypeId × Value → H) :
    ReturnsInHanded {} Tryz.checked os 5 .any (fun w args => (Rows.deadFinishesSpec.pre enc Tryz.prog Tryz.f5 [] false w args ∧ laidMetH Tryz.prog [("treenail/term.words", Rows.laid_treenail_term_words)] w) ∧ sizedMet enc Tryz.prog Tryz.f5 (OpenSpec.ofChange Rows.deadFinishesSpec) false w args) (Rows.deadFinishesSpec.post enc Tryz.prog Tryz.f5 false true false false) := by
  refine returnsInHanded_of_change_and (C := Tryz.checked) (X := fun w _ => laidMetH Tryz.prog [("treenail/term.words", Rows.laid_treenail_term_words)] w) (fun _ _ _ hh h => h.of_heap hh) own started (by kernel_rfl) Tryz.func5
    (ChangeSpec.witness_shaped (enc := enc) (C := Tryz.checked) (os := os) (X := fun w _ => laidMetH Tryz.prog [("treenail/term.words", Rows.laid_treenail_term_words)] w) false (World.doorLaid Tryz.prog 400 os) #[.agg #[.int .i64 0, .int .i64 0, .int .i64 0, .int .i64 0, .int .i64 0, .int .i64 0, .slice none 0 0, .slice none 0 0, .slice none 0 0, .slice none 0 0, .slice none 0 0, .slice none 0 0], .agg ⟨List.replicate 104 (.int .i64 0)⟩, .int .i64 0] 8 rfl (World.shaped_of_RefB (by kernel_rfl) (by kernel_rfl)) (by kernel_rfl) (by kernel_rfl) (by kernel_rfl) (door_met os _)) ?_
  intro W base args ds gs before hval0 hW hcnd hsz0 hL _
  have hsz : (DataW.weightsEach Tryz.prog (Tryz.f5.params.toList ++ Rows.deadFinishesSpec.plain.varTypes Tryz.prog) (ds ++ gs)).all (· ≤ reachBytes) = true := hsz0
  have hval : ∀ (j : Nat) t v, Tryz.f5.params[j]? = some t → args[j]? = some v → Value.okWide Tryz.prog W .any base t v := hval0
  have hW' := hW
  obtain ⟨p, q, hA0, hV, rfl, hfz, hnd⟩ := hW
  have hA : DataW.TrodAll enc Tryz.prog W 0 (fun _ => true) true Tryz.f5.params.toList args.toList ds p := hA0
  rw [Tryz.params5] at hA hval hsz
  obtain ⟨v0, vs0, d0, ds0, p0, q0, hargs0, rfl, rfl, h0, r0⟩ := trodAll_cons hA
  obtain ⟨v1, vs1, d1, ds1, p1, q1, hargs1, rfl, rfl, h1, r1⟩ := trodAll_cons r0
  obtain ⟨v2, vs2, d2, ds2, p2, q2, hargs2, rfl, rfl, h2, r2⟩ := trodAll_cons r1
  obtain ⟨rfl, rfl, rfl⟩ := trodAll_nil r2
  obtain rfl : args = #[v0, v1, v2] := by cases args; simp_all
  obtain ⟨rfl, rfl⟩ := trodVars_none hV
  obtain ⟨cs0, rfl, _⟩ := okWide_struct Tryz.underlying32 (hval 0 32 v0 rfl rfl)
  have k0 := h0
  have lt0 : ∀ x ∈ p0, x.block < W.heap.size := by obtain ⟨m, hm⟩ := k0; exact DataW.trod_lt m _ _ _ hm
  obtain ⟨a0, K0, _⟩ := openedD (F := fun k => k < W.heap.size) (opD_B (fun a u h => cell_lt h)) h0 hsz (j := 0) rfl rfl
  have V0 : VA (B0 W).x a0.a (.agg cs0) := by
    have K : RdL W (B0 W).x.F a0.row cs0.toList := K0
    rw [B.row_eq] at K
    exact rd_agg K
  obtain ⟨cs1, rfl, _⟩ := okWide_struct Tryz.underlying41 (hval 1 41 v1 rfl rfl)
  have k1 := h1
  have lt1 : ∀ x ∈ p1, x.block < W.heap.size := by obtain ⟨m, hm⟩ := k1; exact DataW.trod_lt m _ _ _ hm
  obtain ⟨b1, K1, O1⟩ := openedD (F := fun k => k < W.heap.size) opD_St h1 hsz (j := 1) rfl rfl
  have V10 := va_St K1
  obtain ⟨a1, e1⟩ : ∃ a, a = b1.1 ++ b1.2.1 := ⟨_, rfl⟩
  have u1 : a1.length = 104 := by rw [e1, List.length_append, O1.1, O1.2.1]
  have V1 : VA (B0 W).x (sA a1) (.agg cs1) := by rw [e1]; exact V10
  obtain ⟨a2, rfl, rfl, rfl, y2⟩ := open_int Tryz.underlying3 (hval 2 3 v2 rfl rfl) h2
  have V2 : VA (B0 W).x (aI a2) (.int .i64 a2) := VA.sc _ rfl
  clear hA0 hval0 hsz0 hsz
  have hT : TR (B0 W).x [a0.a, sA a1, aI a2] #[.agg cs0, .agg cs1, .int .i64 a2] := ⟨rfl, fun i a hi => by
    match i, hi with
    | 0, hi => cases hi; exact ⟨_, rfl, V0⟩
    | 1, hi => cases hi; exact ⟨_, rfl, V1⟩
    | 2, hi => cases hi; exact ⟨_, rfl, V2⟩
    | i + 3, hi => simp at hi⟩
  refine (run_true (E := env) (lawF_ok a0 a1 a2 u1) (base_ok hL) hT).mono fun e W' hbel => ?_
  obtain ⟨he, bel0⟩ := hbel
  have bel := bel0
  subst he
  exact ⟨_, rfl, _, _, _, [], _, [], hW', trodAll_mk1 (shut_bool Tryz.underlying4 _), (trodAll_cons_mk (Below.trod laidOut (by kernel_rfl) (of_decide_eq_true (by kernel_rfl)) k0 bel lt0) (trodAll_cons_mk (Below.trod laidOut (by kernel_rfl) (of_decide_eq_true (by kernel_rfl)) k1 bel lt1) (trodAll_cons_mk (shut_int Tryz.underlying3 y2) trodAll_mk0))), rfl, bel.frame _, fun h => by cases h⟩
theorem over : Rows.deadFinishesRow.holds Tryz.pinned (OpenSpec.ofChange Rows.deadFinishesSpec) :=
  OpenClaim.holds_of_wide 5 Tryz.f5 rfl rfl rfl rfl rfl rfl rfl ⟨rfl, rfl, rfl, rfl, rfl⟩ rfl rfl rfl rfl rfl (by kernel_rfl) Tryz.func5 (by kernel_rfl)
    (of_decide_eq_true (by kernel_rfl)) (by unfold Func.isWrapper; first | (rw [if_pos (by decide +kernel)]; kernel_rfl) | (rw [if_neg (by decide +kernel)]; exact ⟨rfl, rfl⟩))
    (fun os started H enc _ => lifted os started H enc)
theorem card : Claim7.holds Tryz.pinned (.plain (OpenSpec.ofChange Rows.deadFinishesSpec)) Rows.deadFinishesCard :=
  Claim7.holds_tied_plain_at .later [] [.widerDeep] true (true, "755e3d16b4f2a11c3b81e3845db3f35608e0141002795527d66ef4b81d9e3636") false
    over (fun _ h => by cases h) (by kernel_rfl) (fun _ h => by cases h) deadFinishes_row_tie rfl ⟨rfl, rfl⟩ (by kernel_rfl) rfl
    (fun f fn hf hfn => by
      obtain rfl : f = 5 := Option.some.inj ((show Tryz.prog.funcNamed "treenail/treenaillaw19.DeadFinishes" = some 5 by kernel_rfl).symm.trans hf) |>.symm
      obtain rfl : fn = Tryz.f5 := (Option.some.inj (Tryz.func5.symm.trans hfn)).symm
      exact ⟨by kernel_rfl, fun j t ht => by
        rw [Tryz.params5] at ht
        have hm : t ∈ [32, 41, 3] := by simpa using Array.mem_of_getElem? ht
        have hall : ([32, 41, 3].all fun u => !Tryz.prog.wantsStandIn u) = true := by kernel_rfl
        exact (show Tryz.prog.wantsStandIn t = false by simpa using List.all_eq_true.1 hall t hm)⟩)
    (by kernel_rfl)
theorem proved : Rows.DeadFinishesCardSaid := card
#print axioms proved
end Go.Proofs.YthodghlpcklaeaaGreatDoor.deadFinishes
namespace Go.Proofs.YthodghlpcklaeaaGreatDoor
/-- The card, under a short name, for the claim. -/
theorem deadFinishes_holds : Rows.DeadFinishesCardSaid := deadFinishes.proved
end Go.Proofs.YthodghlpcklaeaaGreatDoor
