/- The row of MarkWrites over its pure statement, and its card. -/
import Derived.Test.YtdlblokojlhmbaaDoorRows
import Derived.Test.YtdlblokojlhmbaaDoorSx15
import Derived.Test.YtdlblokojlhmbaaDoorSQk
import Derived.WalkKit
import Derived.ProofKit
import Derived.OpenShut
import Derived.ShutString
import Derived.ChangeOld
import Derived.Below
import Derived.SizedLaws
import Derived.Carry
import Derived.LaidMore
import Derived.Stop.Joined
import Derived.SevenTiedAt
import Derived.Test.YtdlblokojlhmbaaDoorCards
import Derived.Test.YtdlblokojlhmbaaDoorTie
import Derived.Test.YtdlblokojlhmbaaDoorSLaid
import Derived.Test.YtdlblokojlhmbaaDoorZMarkWrites
namespace Go.Proofs.YtdlblokojlhmbaaDoor.markWrites
open Go.ChangeShapes Go.WideShapes Go.ChangeAt Go.RowKit Go.Proofs.YtdlblokojlhmbaaDoor.Q Go.Proofs.YtdlblokojlhmbaaDoor.Opens Go.Proofs.YtdlblokojlhmbaaDoorW.PrintWords
open Go.ChangeMaps (open_string shut_string)
set_option linter.unusedVariables false
set_option linter.unusedSimpArgs false
theorem own : ownKnob Tryd.prog.godebug = none := by kernel_rfl
theorem laidOut : laidOutB Tryd.prog = true := by kernel_rfl
theorem door_met (os : Os) (args : Array Value) : laidMetH Tryd.prog [("treenail/mark.escapes", Rows.laid_treenail_mark_escapes)] ((World.doorLaid Tryd.prog 400 os).forCall (fun _ _ => 0) ⟨#[], args, []⟩).memory :=
  laidMetH_of_parts3 (fuel := 8) (laidMet_of_run' 8 (by kernel_rfl) (by kernel_rfl)) (by kernel_rfl) (by kernel_rfl)
set_option maxRecDepth 100000 in
theorem lifted (os : Os) (started : os.Started) (H : Type) (enc : TypeId × Value → H) :
    ReturnsInHanded {} Tryd.checked os 6 .any (fun w args => (Rows.markWritesSpec.pre enc Tryd.prog Tryd.f6 [] false w args ∧ laidMetH Tryd.prog [("treenail/mark.escapes", Rows.laid_treenail_mark_escapes)] w) ∧ sizedMet enc Tryd.prog Tryd.f6 (OpenSpec.ofChange Rows.markWritesSpec) false w args) (Rows.markWritesSpec.post enc Tryd.prog Tryd.f6 false true false false) := by
  refine returnsInHanded_of_change_and (C := Tryd.checked) (X := fun w _ => laidMetH Tryd.prog [("treenail/mark.escapes", Rows.laid_treenail_mark_escapes)] w) (fun _ _ _ hh h => h.of_heap hh) own started (by kernel_rfl) Tryd.func6
    (ChangeSpec.witness_shaped (enc := enc) (C := Tryd.checked) (os := os) (X := fun w _ => laidMetH Tryd.prog [("treenail/mark.escapes", Rows.laid_treenail_mark_escapes)] w) false (World.doorLaid Tryd.prog 400 os) #[.agg #[.int .i64 0, .int .i64 0, .string ByteArray.empty, .slice none 0 0, .string ByteArray.empty]] 8 rfl (World.shaped_of_RefB (by kernel_rfl) (by kernel_rfl)) (by kernel_rfl) (by kernel_rfl) (by kernel_rfl) (door_met os _)) ?_
  intro W base args ds gs before hval0 hW hcnd hsz0 hL _
  have hsz : (DataW.weightsEach Tryd.prog (Tryd.f6.params.toList ++ Rows.markWritesSpec.plain.varTypes Tryd.prog) (ds ++ gs)).all (· ≤ reachBytes) = true := hsz0
  have hval : ∀ (j : Nat) t v, Tryd.f6.params[j]? = some t → args[j]? = some v → Value.okWide Tryd.prog W .any base t v := hval0
  have hW' := hW
  obtain ⟨p, q, hA0, hV, rfl, hfz, hnd⟩ := hW
  have hA : DataW.TrodAll enc Tryd.prog W 0 (fun _ => true) true Tryd.f6.params.toList args.toList ds p := hA0
  rw [Tryd.params6] at hA hval hsz
  obtain ⟨v0, vs0, d0, ds0, p0, q0, hargs, rfl, rfl, h0, r0⟩ := trodAll_cons hA
  obtain ⟨rfl, rfl, rfl⟩ := trodAll_nil r0
  obtain rfl : args = #[v0] := by cases args; simp_all
  obtain ⟨rfl, rfl⟩ := trodVars_none hV
  obtain ⟨cs0, rfl, _⟩ := okWide_struct Tryd.underlying38 (hval 0 38 v0 rfl rfl)
  have k0 := h0
  have lt0 : ∀ x ∈ p0, x.block < W.heap.size := by obtain ⟨m, hm⟩ := k0; exact DataW.trod_lt m _ _ _ hm
  obtain ⟨x0, K0, o0⟩ := opened (fun n_ => (opn_T38 n_)) h0 hsz (j := 0) rfl rfl
  have K0' : k38.K W x0 cs0.toList := K0
  obtain ⟨A0_3, c0_3, e0, l0_3, g0_3⟩ := k38_open K0'
  obtain rfl : cs0 = #[.int .i64 x0.f0, .int .i64 x0.f1, .string x0.f2, .slice A0_3 x0.f3.length c0_3, .string x0.f4] := Array.ext' e0
  clear hA0 hval0 hsz0 hsz
  obtain ⟨kk, hh⟩ := Pure.MarkWrites x0 o0
  refine (Q.treenaillaw01_MarkWrites.calls kk x0.f0 x0.f1 x0.f2 _ _ x0.f3 x0.f4 true W g0_3 l0_3 hh (Laid.tab hL)).mono fun e W' hbel => ?_
  obtain ⟨he, bel0⟩ := hbel
  have bel := bel0
  subst he
  exact ⟨_, rfl, _, _, _, [], _, [], hW', trodAll_mk1 (shut_bool Tryd.underlying4 _), (trodAll_cons_mk (Below.trod laidOut (by kernel_rfl) (of_decide_eq_true (by kernel_rfl)) k0 bel lt0) trodAll_mk0), rfl, bel.frame _, fun h => by cases h⟩
theorem over : Rows.markWritesRow.holds Tryd.pinned (OpenSpec.ofChange Rows.markWritesSpec) :=
  OpenClaim.holds_of_wide 6 Tryd.f6 rfl rfl rfl rfl rfl rfl rfl ⟨rfl, rfl, rfl, rfl, rfl⟩ rfl rfl rfl rfl rfl (by kernel_rfl) Tryd.func6 (by kernel_rfl)
    (of_decide_eq_true (by kernel_rfl)) (by unfold Func.isWrapper; first | (rw [if_pos (by decide +kernel)]; kernel_rfl) | (rw [if_neg (by decide +kernel)]; exact ⟨rfl, rfl⟩))
    (fun os started H enc _ => lifted os started H enc)
theorem card : Claim7.holds Tryd.pinned (.plain (OpenSpec.ofChange Rows.markWritesSpec)) Rows.markWritesCard :=
  Claim7.holds_tied_plain_at .later [] [.widerDeep] true (true, "2c15aecd8ef7615194bf05c406df6981af7275219445ee504fcff72b10412cc0") false
    over (fun _ h => by cases h) (by kernel_rfl) (fun _ h => by cases h) markWrites_row_tie rfl ⟨rfl, rfl⟩ (by kernel_rfl) rfl
    (fun f fn hf hfn => by
      obtain rfl : f = 6 := Option.some.inj ((show Tryd.prog.funcNamed "treenail/treenaillaw01.MarkWrites" = some 6 by kernel_rfl).symm.trans hf) |>.symm
      obtain rfl : fn = Tryd.f6 := (Option.some.inj (Tryd.func6.symm.trans hfn)).symm
      exact ⟨by kernel_rfl, fun j t ht => by
        rw [Tryd.params6] at ht
        have hm : t ∈ [38] := by simpa using Array.mem_of_getElem? ht
        have hall : ([38].all fun u => !Tryd.prog.wantsStandIn u) = true := by kernel_rfl
        exact (show Tryd.prog.wantsStandIn t = false by simpa using List.all_eq_true.1 hall t hm)⟩)
    (by kernel_rfl)
theorem proved : Rows.MarkWritesCardSaid := card
#print axioms proved
end Go.Proofs.YtdlblokojlhmbaaDoor.markWrites
namespace Go.Proofs.YtdlblokojlhmbaaDoor
/-- The card, under a short name, for the claim. -/
theorem markWrites_holds : Rows.MarkWritesCardSaid := markWrites.proved
end Go.Proofs.YtdlblokojlhmbaaDoor
