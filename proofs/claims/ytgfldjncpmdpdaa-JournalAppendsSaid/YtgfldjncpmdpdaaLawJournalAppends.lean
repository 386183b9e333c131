-- By a program of this session, over the kit's print.py, with contracts of this session's own. Not trusted: Lean checks it.
import Derived.Test.YtgfldjncpmdpdaaRows
import Derived.Test.YtgfldjncpmdpdaaRx11
import Derived.Test.YtgfldjncpmdpdaaRk
import Derived.Test.YtgfldjncpmdpdaaPureJournalAppends
import Derived.WalkKit
import Derived.ProofKit
import Derived.OpenShut
import Derived.ShutString
import Derived.ChangeOld
import Derived.Below
import Derived.SizedLaws
import Derived.Carry
namespace Go.Proofs.Ytgfldjncpmdpdaa.journalAppends
open Go.ChangeShapes Go.WideShapes Go.ChangeAt Go.RowKit Go.Proofs.Ytgfldjncpmdpdaa.R Go.Proofs.Ytgfldjncpmdpdaa.Opens Go.Proofs.YtgfldjncpmdpdaaW.PrintWords
open Go.ChangeMaps (open_string shut_string)
set_option linter.unusedVariables false
set_option linter.unusedSimpArgs false
theorem own : ownKnob Try.prog.godebug = none := by kernel_rfl
theorem laidOut : laidOutB Try.prog = true := by kernel_rfl
set_option maxRecDepth 100000 in
theorem lifted (os : Os) (started : os.Started) (H : Type) (enc : TypeId × Value → H) :
    ReturnsInHanded {} Try.checked os 9 .any (Rows.journalAppendsSpec.pre6 enc Try.prog Try.f9 Rows.journalAppendsRow.domain false) (Rows.journalAppendsSpec.post enc Try.prog Try.f9 false true false false) := by
  refine returnsInHanded_of_change_sized (C := Try.checked) own started (by kernel_rfl) Try.func9
    (ChangeSpec.witness6 (enc := enc) (C := Try.checked) false ⟨#[], #[.slice none 0 0], []⟩ 8 (by kernel_rfl) (by kernel_rfl) (by kernel_rfl) (by kernel_rfl)) ?_
  intro W base args ds gs before hval0 hW hcnd hsz0 _
  have hsz : (DataW.weightsEach Try.prog (Try.f9.params.toList ++ Rows.journalAppendsSpec.plain.varTypes Try.prog) (ds ++ gs)).all (· ≤ reachBytes) = true := hsz0
  have hval : ∀ (j : Nat) t v, Try.f9.params[j]? = some t → args[j]? = some v → Value.okWide Try.prog W .any base t v := hval0
  have hW' := hW
  obtain ⟨p, q, hA0, hV, rfl, hfz, hnd⟩ := hW
  have hA : DataW.TrodAll enc Try.prog W 0 (fun _ => true) true Try.f9.params.toList args.toList ds p := hA0
  rw [Try.params9] at hA hval hsz
  obtain ⟨v0, vs0, d0, ds0, p0, q0, hargs, rfl, rfl, h0, r0⟩ := trodAll_cons hA
  obtain ⟨rfl, rfl, rfl⟩ := trodAll_nil r0
  obtain rfl : args = #[v0] := by cases args; simp_all
  obtain ⟨rfl, rfl⟩ := trodVars_none hV
  obtain ⟨A0, len0, c0, rfl⟩ := okWide_slice Try.underlying37 (hval 0 37 v0 rfl rfl)
  have k0 := h0
  have lt0 : ∀ x ∈ p0, x.block < W.heap.size := by obtain ⟨m, hm⟩ := k0; exact DataW.trod_lt m _ _ _ hm
  obtain ⟨x0, K0, o0⟩ := opened (fun n_ => (opn_slice (d := k23) (ok := ok_T23) (B := 24) Try.underlying37 (by kernel_rfl) (by kernel_rfl) (fun m_ _ => (opn_T23 m_)))) h0 hsz (j := 0) rfl rfl
  obtain ⟨A0', c0', e0, l0, g0⟩ := K0
  obtain ⟨rfl, rfl, rfl⟩ : A0 = A0' ∧ len0 = x0.length ∧ c0 = c0' := by simpa [Value.cells] using e0
  clear hA0 hval0 hsz0 hsz
  obtain ⟨kk, hh⟩ := Pure.JournalAppends x0 o0
  refine (R.treenaillaw31_JournalAppends.calls kk _ _ x0 true W g0 l0 hh).mono fun e W' hbel => ?_
  obtain ⟨he, bel0⟩ := hbel
  have bel := bel0
  subst he
  exact ⟨_, rfl, _, _, _, [], _, [], hW', trodAll_mk1 (shut_bool Try.underlying4 _), (trodAll_cons_mk (Below.trod laidOut (by kernel_rfl) (of_decide_eq_true (by kernel_rfl)) k0 bel lt0) trodAll_mk0), rfl, bel.frame _, fun h => by cases h⟩
theorem over : Rows.journalAppendsRow.holds Try.pinned (OpenSpec.ofChange Rows.journalAppendsSpec) :=
  OpenClaim.holds_of_wide 9 Try.f9 rfl rfl rfl rfl rfl rfl rfl ⟨rfl, rfl, rfl, rfl, rfl⟩ rfl rfl rfl rfl rfl (by kernel_rfl) Try.func9 (by kernel_rfl)
    (of_decide_eq_true (by kernel_rfl)) (by unfold Func.isWrapper; first | (rw [if_pos (by decide +kernel)]; kernel_rfl) | (rw [if_neg (by decide +kernel)]; exact ⟨rfl, rfl⟩))
    (fun os started H enc _ => lifted os started H enc)
theorem proved : Rows.JournalAppendsSaid := over
#print axioms proved
end Go.Proofs.Ytgfldjncpmdpdaa.journalAppends
namespace Go.Proofs.Ytgfldjncpmdpdaa
/-- The row, under a short name, for the claim. -/
theorem journalAppends_holds : Rows.JournalAppendsSaid := journalAppends.proved
end Go.Proofs.Ytgfldjncpmdpdaa
