/- The law RankBetween holds of every number of things, every list of edges and every two ends, with no condition. -/
import Derived.Test.YtfblajilalcnkaaRows
import Derived.Test.YtfblajilalcnkaaQx10
import Derived.Test.YtfblajilalcnkaaQk
import Derived.Test.YtfblajilalcnkaaPureRankBetween
import Derived.WalkKit
import Derived.ProofKit
import Derived.OpenShut
import Derived.ShutString
import Derived.ChangeOld
import Derived.Below
import Derived.SizedLaws
import Derived.Carry
import Derived.WideKeyArr2
namespace Go.Proofs.Ytfblajilalcnkaa.rankBetween
open Go.ChangeShapes Go.WideShapes Go.ChangeAt Go.RowKit Go.Proofs.Ytfblajilalcnkaa.Q Go.Proofs.Ytfblajilalcnkaa.Opens Go.Proofs.YtfblajilalcnkaaW.PrintWords
open Go.ChangeMaps (open_string shut_string)
set_option linter.unusedVariables false
set_option linter.unusedSimpArgs false
theorem own : ownKnob Try.prog.godebug = none := by kernel_rfl
theorem laidOut : laidOutB Try.prog = true := by kernel_rfl
/-- Two whole numbers in an array. -/
theorem open_two {H : Type} {enc : TypeId × Value → H} {P : Program} {W : World} {base : Nat} {spare : Nat → Bool} {held : Bool} {t e : TypeId} {k : IntKind} {cs : Array Value} {d : DataW H} {p : List MemPlace}
    (ht : P.underlying t = some (.array 2 e)) (he : P.underlying e = some (.int k)) (hc : P.cellsOf t = 2) (hce : P.cellsOf e = 1) (h : DataW.Trod enc P W base spare held t (.agg cs) d p) : ∃ a b, cs = #[.int k a, .int k b] := by
  obtain ⟨m, hm⟩ := h
  obtain ⟨xs, m, rfl, hx, hcl, hl, hf⟩ := DataW.trod_array ht hm
  rw [hce] at hf
  have h0 := hf 0 (by omega)
  have h1 := hf 1 (by omega)
  rw [List.getElem?_eq_getElem (show 0 < xs.length by omega)] at h0
  rw [List.getElem?_eq_getElem (show 1 < xs.length by omega)] at h1
  obtain ⟨a, ha, _⟩ := DataW.trod_int he h0
  obtain ⟨b, hb, _⟩ := DataW.trod_int he h1
  refine ⟨a, b, ?_⟩
  have hsz : cs.toList.length = 2 := by rw [← hc]; exact hcl
  obtain ⟨l⟩ := cs
  match l, hsz with
  | [x, y], _ =>
    have ha' : [x] = [Value.int k a] := ha
    have hb' : [y] = [Value.int k b] := hb
    rw [List.cons.injEq] at ha' hb'
    rw [ha'.1, hb'.1]
set_option maxRecDepth 100000 in
theorem lifted (os : Os) (started : os.Started) (H : Type) (enc : TypeId × Value → H) :
    ReturnsInHanded {} Try.checked os 7 .any (Rows.rankBetweenSpec.pre6 enc Try.prog Try.f7 Rows.rankBetweenRow.domain false) (Rows.rankBetweenSpec.post enc Try.prog Try.f7 false true false false) := by
  refine returnsInHanded_of_change_sized (C := Try.checked) own started (by kernel_rfl) Try.func7
    (ChangeSpec.witness6 (enc := enc) (C := Try.checked) false ⟨#[], #[.int .i64 0, .slice none 0 0, .agg #[.int .i64 0, .int .i64 0]], []⟩ 8 (by kernel_rfl) (by kernel_rfl) (by kernel_rfl) (by kernel_rfl)) ?_
  intro W base args ds gs before hval0 hW hcnd hsz0 _
  have hsz : (DataW.weightsEach Try.prog (Try.f7.params.toList ++ Rows.rankBetweenSpec.plain.varTypes Try.prog) (ds ++ gs)).all (· ≤ reachBytes) = true := hsz0
  have hval : ∀ (j : Nat) t v, Try.f7.params[j]? = some t → args[j]? = some v → Value.okWide Try.prog W .any base t v := hval0
  have hW' := hW
  obtain ⟨p, q, hA0, hV, rfl, hfz, hnd⟩ := hW
  have hA : DataW.TrodAll enc Try.prog W 0 (fun _ => true) true Try.f7.params.toList args.toList ds p := hA0
  rw [Try.params7] at hA hval hsz
  obtain ⟨v0, vs0, d0, ds0, p0, q0, hargs, rfl, rfl, h0, r0⟩ := trodAll_cons hA
  obtain ⟨v1, vs1, d1, ds1, p1, q1, rfl, rfl, rfl, h1, r1⟩ := trodAll_cons r0
  obtain ⟨v2, vs2, d2, ds2, p2, q2, rfl, rfl, rfl, h2, r2⟩ := trodAll_cons r1
  obtain ⟨rfl, rfl, rfl⟩ := trodAll_nil r2
  obtain rfl : args = #[v0, v1, v2] := by cases args; simp_all
  obtain ⟨rfl, rfl⟩ := trodVars_none hV
  obtain ⟨a0, rfl, rfl, rfl, w0⟩ := open_int Try.underlying3 (hval 0 3 v0 rfl rfl) h0
  obtain ⟨A1, len1, c1, rfl⟩ := okWide_slice Try.underlying22 (hval 1 22 v1 rfl rfl)
  have k1 := h1
  have lt1 : ∀ x ∈ p1, x.block < W.heap.size := by obtain ⟨m, hm⟩ := k1; exact DataW.trod_lt m _ _ _ hm
  obtain ⟨x1, K1, o1⟩ := opened (fun n_ => (opn_slice (d := k36) (ok := ok_T36) (B := 16) Try.underlying22 (by kernel_rfl) (by kernel_rfl) (fun m_ _ => (opn_T36 m_)))) h1 hsz (j := 1) rfl rfl
  obtain ⟨A1', c1', e1, l1, g1⟩ := K1
  obtain ⟨rfl, rfl, rfl⟩ : A1 = A1' ∧ len1 = x1.length ∧ c1 = c1' := by simpa [Value.cells] using e1
  obtain ⟨cs2, rfl⟩ : ∃ cs, v2 = .agg cs := by
    have hv := hval 2 42 v2 rfl rfl
    simp only [Value.okWide, Try.underlying42] at hv
    obtain ⟨cs, hv1, _⟩ := hv
    exact ⟨cs, hv1⟩
  have k2 := h2
  have lt2 : ∀ x ∈ p2, x.block < W.heap.size := by obtain ⟨m, hm⟩ := k2; exact DataW.trod_lt m _ _ _ hm
  obtain ⟨b0, b1, rfl⟩ := open_two Try.underlying42 Try.underlying3 (by kernel_rfl) (by kernel_rfl) h2
  clear hA0 hval0 hsz0 hsz
  obtain ⟨kk, hh⟩ := Pure.RankBetween a0 x1 b0 b1
  refine (Q.treenaillaw09_RankBetween.calls kk a0 _ _ x1 b0 b1 true W g1 l1 hh).mono fun e W' hbel => ?_
  obtain ⟨he, bel0⟩ := hbel
  have bel := bel0
  subst he
  exact ⟨_, rfl, _, _, _, [], _, [], hW', trodAll_mk1 (shut_bool Try.underlying4 _), (trodAll_cons_mk (shut_int Try.underlying3 w0) (trodAll_cons_mk (Below.trod laidOut (by kernel_rfl) (of_decide_eq_true (by kernel_rfl)) k1 bel lt1) (trodAll_cons_mk (Below.trod laidOut (by kernel_rfl) (of_decide_eq_true (by kernel_rfl)) k2 bel lt2) trodAll_mk0))), rfl, bel.frame _, fun h => by cases h⟩
theorem over : Rows.rankBetweenRow.holds Try.pinned (OpenSpec.ofChange Rows.rankBetweenSpec) :=
  OpenClaim.holds_of_wide 7 Try.f7 rfl rfl rfl rfl rfl rfl rfl ⟨rfl, rfl, rfl, rfl, rfl⟩ rfl rfl rfl rfl rfl (by kernel_rfl) Try.func7 (by kernel_rfl)
    (of_decide_eq_true (by kernel_rfl)) (by unfold Func.isWrapper; first | (rw [if_pos (by decide +kernel)]; kernel_rfl) | (rw [if_neg (by decide +kernel)]; exact ⟨rfl, rfl⟩))
    (fun os started H enc _ => lifted os started H enc)
theorem proved : Rows.RankBetweenSaid := over
#print axioms proved
end Go.Proofs.Ytfblajilalcnkaa.rankBetween
namespace Go.Proofs.Ytfblajilalcnkaa
/-- The row, under a short name, for the claim. -/
theorem rankBetween_holds : Rows.RankBetweenSaid := rankBetween.proved
end Go.Proofs.Ytfblajilalcnkaa
