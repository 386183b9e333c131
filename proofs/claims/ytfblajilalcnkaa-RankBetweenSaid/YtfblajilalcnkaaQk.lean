-- By a program of this session, over the kit's print.py, with contracts of this session's own. Not trusted: Lean checks it.
import Derived.Test.YtfblajilalcnkaaQx0
import Derived.Test.YtfblajilalcnkaaOpens
namespace Go.Proofs.Ytfblajilalcnkaa.Q
open Go.RowKit Go.Proofs.YtfblajilalcnkaaW.PrintWords Go.Proofs.YtfblajilalcnkaaW.PrintLast Go.Proofs.YtfblajilalcnkaaW.PrintMore
open Go.Proofs.Ytfblajilalcnkaa.Opens
set_option linter.unusedVariables false
set_option linter.unusedSimpArgs false

def ok_T36 (x : S36) : Prop := ((Lit.int .i64 x.f0).wf = true) ∧ ((Lit.int .i64 x.f1).wf = true)
theorem opn_T36 {H : Type} {enc : TypeId × Value → H} {W : World} {base : Nat} {spare : Nat → Bool} {held : Bool} (n_ : Nat) : Opn H enc Try.prog W base spare held 36 k36 ok_T36 n_ :=
  opn_struct (fun a_ => (⟨a_.1, a_.2⟩ : S36)) Try.underlying36 (by kernel_rfl) (fun _ => rfl) (fun m_ _ => (opnF_cons rfl (by kernel_rfl) (opn_int Try.underlying3) (opnF_one rfl (by kernel_rfl) (opn_int Try.underlying3))))
end Go.Proofs.Ytfblajilalcnkaa.Q
