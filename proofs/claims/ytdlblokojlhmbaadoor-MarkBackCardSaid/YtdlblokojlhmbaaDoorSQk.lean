import Derived.Test.YtdlblokojlhmbaaDoorSx0
import Derived.Test.YtdlblokojlhmbaaDoorSOpens
-- By a program of this session, over the kit's print.py, with contracts of this session's own. Not trusted: Lean checks it.
namespace Go.Proofs.YtdlblokojlhmbaaDoor.Q
open Go.RowKit Go.Proofs.YtdlblokojlhmbaaDoorW.PrintWords Go.Proofs.YtdlblokojlhmbaaDoorW.PrintLast Go.Proofs.YtdlblokojlhmbaaDoorW.PrintMore
open Go.Proofs.YtdlblokojlhmbaaDoor.Opens
set_option linter.unusedVariables false
set_option linter.unusedSimpArgs false

def ok_T51 (x : S51) : Prop := (x.f0.size ≤ 140737488351232) ∧ (x.f1.size ≤ 140737488351232)
theorem opn_T51 {H : Type} {enc : TypeId × Value → H} {W : World} {base : Nat} {spare : Nat → Bool} {held : Bool} (n_ : Nat) : Opn H enc Tryd.prog W base spare held 51 k51 ok_T51 n_ :=
  opn_struct (fun a_ => (⟨a_.1, a_.2⟩ : S51)) Tryd.underlying51 (by kernel_rfl) (fun _ => rfl) (fun m_ _ => (opnF_cons rfl (by kernel_rfl) (opn_string Tryd.underlying9) (opnF_one rfl (by kernel_rfl) (opn_string Tryd.underlying9))))
def ok_T38 (x : S38) : Prop := ((Lit.int .i64 x.f0).wf = true) ∧ (((Lit.int .i64 x.f1).wf = true) ∧ ((x.f2.size ≤ 140737488351232) ∧ ((x.f3.length * 32 ≤ 140737488351232 ∧ x.f3.length ≤ 9223372036854775807 ∧ ∀ a_ ∈ x.f3, ok_T51 a_) ∧ (x.f4.size ≤ 140737488351232))))
theorem opn_T38 {H : Type} {enc : TypeId × Value → H} {W : World} {base : Nat} {spare : Nat → Bool} {held : Bool} (n_ : Nat) : Opn H enc Tryd.prog W base spare held 38 k38 ok_T38 n_ :=
  opn_struct (fun a_ => (⟨a_.1, a_.2.1, a_.2.2.1, a_.2.2.2.1, a_.2.2.2.2⟩ : S38)) Tryd.underlying38 (by kernel_rfl) (fun _ => rfl) (fun m_ _ => (opnF_cons rfl (by kernel_rfl) (opn_int Tryd.underlying3) (opnF_cons rfl (by kernel_rfl) (opn_int Tryd.underlying3) (opnF_cons rfl (by kernel_rfl) (opn_string Tryd.underlying9) (opnF_cons rfl (by kernel_rfl) (opn_slice (d := k51) (ok := ok_T51) (B := 32) Tryd.underlying36 (by kernel_rfl) (by kernel_rfl) (fun m_ _ => (opn_T51 m_))) (opnF_one rfl (by kernel_rfl) (opn_string Tryd.underlying9)))))))
end Go.Proofs.YtdlblokojlhmbaaDoor.Q
