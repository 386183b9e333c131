import Derived.Test.YtdaeiicdpfghlaaDoorSx0
import Derived.Test.YtdaeiicdpfghlaaDoorSOpens
-- By a program of this session, over the kit's print.py, with contracts of this session's own. Not trusted: Lean checks it.
namespace Go.Proofs.YtdaeiicdpfghlaaDoor.R
open Go.RowKit Go.Proofs.YtdaeiicdpfghlaaDoorW.PrintWords Go.Proofs.YtdaeiicdpfghlaaDoorW.PrintLast Go.Proofs.YtdaeiicdpfghlaaDoorW.PrintMore
open Go.Proofs.YtdaeiicdpfghlaaDoor.Opens
set_option linter.unusedVariables false
set_option linter.unusedSimpArgs false

def okn_T35 : Nat → S35 → Prop
  | 0, _ => False
  | n_ + 1, x => ((Lit.int .i64 x.f0).wf = true) ∧ (((Lit.int .i64 x.f1).wf = true) ∧ (x.f2.length * 40 ≤ 140737488351232 ∧ x.f2.length ≤ 9223372036854775807 ∧ ∀ a_ ∈ x.f2, okn_T35 n_ a_))
theorem okn_T35_up : ∀ n_ x, okn_T35 n_ x → okn_T35 (n_ + 1) x
  | 0, _, h_ => h_.elim
  | n_ + 1, x, h_ => by
    obtain ⟨h0_, h1_, h2_⟩ := h_
    exact ⟨h0_, h1_, ⟨h2_.1, h2_.2.1, fun a_ ha_ => okn_T35_up n_ a_ (h2_.2.2 a_ ha_)⟩⟩
def ok_T35 (x : S35) : Prop := ∃ n_, okn_T35 n_ x
theorem opn_T35 {H : Type} {enc : TypeId × Value → H} {W : World} {base : Nat} {spare : Nat → Bool} {held : Bool} (n_ : Nat) : Opn H enc Tryd.prog W base spare held 35 k35 ok_T35 n_ :=
  opn_fix (fun n_ ih_ => opn_imp (d := F35 k35) (ok := (fun x : S35 => ((Lit.int .i64 x.f0).wf = true) ∧ (((Lit.int .i64 x.f1).wf = true) ∧ (x.f2.length * 40 ≤ 140737488351232 ∧ x.f2.length ≤ 9223372036854775807 ∧ ∀ a_ ∈ x.f2, ok_T35 a_)))) (opn_struct (fun a_ => (⟨a_.1, a_.2.1, a_.2.2⟩ : S35)) Tryd.underlying35 (by kernel_rfl) (fun _ => rfl) (fun m_ hm_ => (opnF_cons rfl (by kernel_rfl) (opn_int Tryd.underlying3) (opnF_cons rfl (by kernel_rfl) (opn_int Tryd.underlying3) (opnF_one rfl (by kernel_rfl) (opn_slice (d := k35) (ok := ok_T35) (B := 40) Tryd.underlying33 (by kernel_rfl) (by kernel_rfl) (fun m2_ _ => ih_ m2_ (by omega)))))))) (by
    rintro x cs ⟨_, _, rfl, rfl, ⟨_, _, rfl, rfl, ⟨A2, c2, rfl, l2, g2⟩⟩⟩
    exact k35_mk W x l2 g2) (by
    rintro x ⟨h0_, h1_, h2_⟩
    obtain ⟨n2_, hn_⟩ := all_deep (q := okn_T35) okn_T35_up h2_.2.2
    exact ⟨n2_ + 1, h0_, h1_, ⟨h2_.1, h2_.2.1, hn_⟩⟩)) n_
def ok_T37 (x : S37) : Prop := ((Lit.int .i64 x.f0).wf = true) ∧ (((Lit.int .i64 x.f1).wf = true) ∧ (ok_T35 x.f2))
theorem opn_T37 {H : Type} {enc : TypeId × Value → H} {W : World} {base : Nat} {spare : Nat → Bool} {held : Bool} (n_ : Nat) : Opn H enc Tryd.prog W base spare held 37 k37 ok_T37 n_ :=
  opn_struct (fun a_ => (⟨a_.1, a_.2.1, a_.2.2⟩ : S37)) Tryd.underlying37 (by kernel_rfl) (fun _ => rfl) (fun m_ _ => (opnF_cons rfl (by kernel_rfl) (opn_int Tryd.underlying3) (opnF_cons rfl (by kernel_rfl) (opn_int Tryd.underlying3) (opnF_one rfl (by kernel_rfl) (opn_T35 m_)))))
def ok_T53 (x : S53) : Prop := ((Lit.int .i64 x.f0).wf = true) ∧ (((Lit.int .i64 x.f1).wf = true) ∧ ((True) ∧ (ok_T35 x.f3)))
theorem opn_T53 {H : Type} {enc : TypeId × Value → H} {W : World} {base : Nat} {spare : Nat → Bool} {held : Bool} (n_ : Nat) : Opn H enc Tryd.prog W base spare held 53 k53 ok_T53 n_ :=
  opn_struct (fun a_ => (⟨a_.1, a_.2.1, a_.2.2.1, a_.2.2.2⟩ : S53)) Tryd.underlying53 (by kernel_rfl) (fun _ => rfl) (fun m_ _ => (opnF_cons rfl (by kernel_rfl) (opn_int Tryd.underlying3) (opnF_cons rfl (by kernel_rfl) (opn_int Tryd.underlying3) (opnF_cons rfl (by kernel_rfl) (opn_bool Tryd.underlying4) (opnF_one rfl (by kernel_rfl) (opn_T35 m_))))))
def ok_T25 (x : S25) : Prop := (x.f0.length * 56 ≤ 140737488351232 ∧ x.f0.length ≤ 9223372036854775807 ∧ ∀ a_ ∈ x.f0, ok_T37 a_) ∧ (x.f1.length * 64 ≤ 140737488351232 ∧ x.f1.length ≤ 9223372036854775807 ∧ ∀ a_ ∈ x.f1, ok_T53 a_)
theorem opn_T25 {H : Type} {enc : TypeId × Value → H} {W : World} {base : Nat} {spare : Nat → Bool} {held : Bool} (n_ : Nat) : Opn H enc Tryd.prog W base spare held 25 k25 ok_T25 n_ :=
  opn_struct (fun a_ => (⟨a_.1, a_.2⟩ : S25)) Tryd.underlying25 (by kernel_rfl) (fun _ => rfl) (fun m_ _ => (opnF_cons rfl (by kernel_rfl) (opn_slice (d := k37) (ok := ok_T37) (B := 56) Tryd.underlying22 (by kernel_rfl) (by kernel_rfl) (fun m_ _ => (opn_T37 m_))) (opnF_one rfl (by kernel_rfl) (opn_slice (d := k53) (ok := ok_T53) (B := 64) Tryd.underlying23 (by kernel_rfl) (by kernel_rfl) (fun m_ _ => (opn_T53 m_))))))
end Go.Proofs.YtdaeiicdpfghlaaDoor.R
