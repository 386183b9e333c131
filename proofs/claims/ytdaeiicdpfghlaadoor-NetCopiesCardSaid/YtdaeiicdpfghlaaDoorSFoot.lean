import Derived.Test.YtdaeiicdpfghlaaDoorV0
/-! What an element of a row leads to stays read as long as the row does, beside a state. -/
namespace Go.Proofs.YtdaeiicdpfghlaaDoorW.PrintWords
open Go.RowKit
theorem foot_elem {α β : Type} {d : Kd α} {d' : Kd β} {F : α → List β} (off : Nat) {w W : World} {g n : Nat} {ad : Addr} {xs : List α}
    (hop : ∀ (W_ : World) (x : α) (cs : List Value), d.K W_ x cs → ∃ A c, cs[off]? = some (.slice A (F x).length c) ∧ d'.C W_ A (F x).length (F x))
    (h : ∀ W_, KeepBut w W_ g none → d.C W_ (some ad) n xs) (hk : KeepBut w W g none) (hs : 0 < d.sz) (i : Int) (h0 : 0 ≤ i) (h1 : i < n) (z : α) {A2 : Option Addr} {m c2 : Nat}
    (hx : W.cell? (ad.add (i.toNat * d.sz + off)) = some (.slice A2 m c2)) :
    ∀ W_, KeepBut w W_ g none → d'.C W_ A2 (F (xs.getD i.toNat z)).length (F (xs.getD i.toNat z)) := by
  intro W_ hk'
  have hn : 0 < n := by omega
  have hne := Kd.foot_ne h hn hs
  have hlt := Kd.foot_lt h hn hs
  obtain ⟨ad', c, e, _, hK, hc⟩ := Kd.C_get (h W_ hk') z i h0 h1
  injection e with e
  subst e
  obtain ⟨A, c', hcs, hC⟩ := hop _ _ _ hK
  have h2 := hc off _ hcs
  have hb : ∀ b : World, KeepBut w b g none → b.cell? (ad.add (i.toNat * d.sz + off)) = w.cell? (ad.add (i.toNat * d.sz + off)) := fun b hb => by
    simp only [World.cell?, add_block, hb.2 ad.block hlt hne (by simp)]
  rw [hb W_ hk', ← hb W hk, hx] at h2
  injection h2 with h2
  injection h2 with h2 _ _
  rw [h2]
  exact hC
end Go.Proofs.YtdaeiicdpfghlaaDoorW.PrintWords
