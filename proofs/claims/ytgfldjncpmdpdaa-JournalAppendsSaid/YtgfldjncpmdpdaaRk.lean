-- By a program of this session, over the kit's print.py, with contracts of this session's own. Not trusted: Lean checks it.
import Derived.Test.YtgfldjncpmdpdaaRx0
import Derived.Test.YtgfldjncpmdpdaaOpens
namespace Go.Proofs.Ytgfldjncpmdpdaa.R
open Go.RowKit Go.Proofs.YtgfldjncpmdpdaaW.PrintWords Go.Proofs.YtgfldjncpmdpdaaW.PrintLast Go.Proofs.YtgfldjncpmdpdaaW.PrintMore
open Go.Proofs.Ytgfldjncpmdpdaa.Opens
set_option linter.unusedVariables false
set_option linter.unusedSimpArgs false

def ok_T23 (x : S23) : Prop := ((Lit.int .i64 x.f0).wf = true) ∧ (((Lit.int .i64 x.f1).wf = true) ∧ ((Lit.int .i64 x.f2).wf = true))
theorem opn_T23 {H : Type} {enc : TypeId × Value → H} {W : World} {base : Nat} {spare : Nat → Bool} {held : Bool} (n_ : Nat) : Opn H enc Try.prog W base spare held 23 k23 ok_T23 n_ :=
  opn_struct (fun a_ => (⟨a_.1, a_.2.1, a_.2.2⟩ : S23)) Try.underlying23 (by kernel_rfl) (fun _ => rfl) (fun m_ _ => (opnF_cons rfl (by kernel_rfl) (opn_int Try.underlying3) (opnF_cons rfl (by kernel_rfl) (opn_int Try.underlying3) (opnF_one rfl (by kernel_rfl) (opn_int Try.underlying3)))))
end Go.Proofs.Ytgfldjncpmdpdaa.R
