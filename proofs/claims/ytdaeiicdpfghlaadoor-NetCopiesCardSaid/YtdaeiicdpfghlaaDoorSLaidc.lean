/- What a listed package-level variable's datum says of its cells: plain data (whole numbers, bools, strings, arrays and structs of them). -/
import Derived.Test.YtdaeiicdpfghlaaDoorProg
import Derived.ChangeArms
import Derived.OpenShut
import Derived.FnData
import Derived.LaidMore
import Derived.LaidByTextLater
set_option linter.unusedVariables false
set_option linter.unusedSimpArgs false
namespace Go.Proofs.YtdaeiicdpfghlaaDoor.Laidc
open Go
/-- The cell at a place of a plain datum of a type. -/
def cellAt (P : Program) : Nat → TypeId → DataW Unit → Nat → Option Value
  | 0, _, _, _ => none
  | n + 1, t, .lit l, o => if o = 0 then (match P.underlying t, l with
    | some (.int _), .int k m => some (.int k m)
    | some .bool, .bool b => some (.bool b)
    | some .string, .string bs => some (.string ⟨bs.toArray⟩)
    | _, _ => none) else none
  | n + 1, t, .agg ds, o => match P.underlying t with
    | some (.array m e) => if o / P.cellsOf e < m ∧ 0 < P.cellsOf e then (ds[o / P.cellsOf e]?).bind fun d => cellAt P n e d (o % P.cellsOf e) else none
    | some (.struct fs) => (List.range fs.size).findSome? fun i => (fs[i]?).bind fun f => (ds[i]?).bind fun d => if f.offset ≤ o ∧ o - f.offset < P.cellsOf f.type then cellAt P n f.type d (o - f.offset) else none
    | _ => none
  | _, _, _, _ => none
theorem take_drop {α : Type} (cs : List α) (a b i : Nat) (v : α) (h : ((cs.drop a).take b)[i]? = some v) : cs[a + i]? = some v := by
  rw [List.getElem?_take] at h
  split at h
  · rw [List.getElem?_drop] at h
    exact h
  · simp at h
theorem cell_of_trod {P : Program} {w : World} {held : Bool} {spare : Nat → Bool} {base : Nat} : ∀ (m n : Nat) (t : TypeId) (cs : List Value) (d : DataW Unit) (p : List MemPlace) (o : Nat) (v : Value),
    DataW.trod (fun _ => ()) P w base spare held m t cs = some (d, p) → cellAt P n t d o = some v → cs[o]? = some v := by
  intro m n
  induction n generalizing m with
  | zero => intro t cs d p o v _ h; simp [cellAt] at h
  | succ n ih =>
    intro t cs d p o v ht hc
    cases d with
    | lit l =>
      simp only [cellAt] at hc
      split at hc
      · rename_i h0
        subst h0
        split at hc
        · rename_i hu
          obtain ⟨q, rfl, hx, _⟩ := DataW.trod_int hu ht
          simp only [Prod.mk.injEq, DataW.lit.injEq, Lit.int.injEq] at hx
          obtain ⟨⟨rfl, rfl⟩, _⟩ := hx
          simpa using hc
        · rename_i hu
          obtain ⟨q, rfl, hx⟩ := DataW.trod_bool hu ht
          simp only [Prod.mk.injEq, DataW.lit.injEq, Lit.bool.injEq] at hx
          obtain ⟨rfl, _⟩ := hx
          simpa using hc
        · rename_i hu
          obtain ⟨q, rfl, hx, _⟩ := DataW.trod_string hu ht
          simp only [Prod.mk.injEq, DataW.lit.injEq, Lit.string.injEq] at hx
          obtain ⟨rfl, _⟩ := hx
          simpa using hc
        · simp at hc
      · simp at hc
    | agg ds =>
      simp only [cellAt] at hc
      split at hc
      · rename_i k e hu
        split at hc
        · rename_i hk
          obtain ⟨xs, m', rfl, hx, _, hxl, hel⟩ := DataW.trod_array hu ht
          obtain ⟨hd, _⟩ := Prod.mk.inj hx
          obtain rfl := DataW.agg.inj hd
          obtain ⟨d', hd', hc'⟩ := Option.bind_eq_some_iff.1 hc
          rw [List.getElem?_map] at hd'
          obtain ⟨x, hx1, rfl⟩ := Option.map_eq_some_iff.1 hd'
          have h1 := hel (o / P.cellsOf e) hk.1
          rw [hx1] at h1
          have h2 := take_drop _ _ _ _ _ (ih m' e _ x.1 x.2 _ v h1 hc')
          rw [show o / P.cellsOf e * P.cellsOf e + o % P.cellsOf e = o from Nat.div_add_mod' o _] at h2
          exact h2
        · simp at hc
      · rename_i fs hu
        obtain ⟨xs, m', rfl, hx, _, hxl, hel⟩ := DataW.trod_struct hu ht
        obtain ⟨hd, _⟩ := Prod.mk.inj hx
        obtain rfl := DataW.agg.inj hd
        obtain ⟨i, hi, hc1⟩ := List.exists_of_findSome?_eq_some hc
        obtain ⟨f, hf, hc2⟩ := Option.bind_eq_some_iff.1 hc1
        obtain ⟨d', hd', hc'⟩ := Option.bind_eq_some_iff.1 hc2
        split at hc'
        · rename_i hk
          rw [List.getElem?_map] at hd'
          obtain ⟨x, hx1, rfl⟩ := Option.map_eq_some_iff.1 hd'
          have h1 := hel i f hf
          rw [hx1] at h1
          have h2 := take_drop _ _ _ _ _ (ih m' f.type _ x.1 x.2 _ v h1 hc')
          rw [show f.offset + (o - f.offset) = o from by omega] at h2
          exact h2
        · simp at hc'
      · simp at hc
    | _ => simp [cellAt] at hc
theorem of_laidVars {P : Program} {w : World} : ∀ (laid : List (String × DataW Unit)) (ps : List MemPlace), DataW.LaidVars P w laid ps → ∀ (name : String) (d : DataW Unit), (name, d) ∈ laid →
    ∃ g t cs fuel p, P.globalNamed name = some g ∧ (P.globals[g]?).map (·.type) = some t ∧ w.var? P name = some cs ∧ DataW.trod (fun _ => ()) P w 0 (fun _ => true) false fuel t cs.toList = some (d, p)
  | [], _, _, _, _, h => by simp at h
  | (n0, d0) :: r, ps, hl, name, d, h => by
    obtain ⟨g, t, cs, fuel, p, q, h1, h2, h3, h4, h5, _⟩ := hl
    rcases List.mem_cons.1 h with h | h
    · obtain ⟨rfl, rfl⟩ := Prod.mk.inj h
      exact ⟨g, t, cs, fuel, p, h1, h2, h3, h4⟩
    · exact of_laidVars r q h5 name d h
/-- A cell of a listed variable. -/
theorem cell_of_laid {P : Program} {W : World} {laid : List (String × DataW Unit)} (hp : (laid.filter fun x => x.2.handleName?.isSome) = []) (h : laidMetH P laid W) {name : String} {d : DataW Unit} (hm : (name, d) ∈ laid)
    {g : Nat} (hg : P.globalNamed name = some g) {t : TypeId} (ht : (P.globals[g]?).map (·.type) = some t) (n o : Nat) (v : Value) (hc : cellAt P n t d o = some v) : W.cell? ⟨g, o, none⟩ = some v := by
  unfold laidMetH at h
  rw [hp] at h
  obtain ⟨ps, hl, _⟩ := h
  obtain ⟨g', t', cs, fuel, p, h1, h2, h3, h4⟩ := of_laidVars laid ps hl name d hm
  obtain rfl := Option.some.inj (hg.symm.trans h1)
  obtain rfl := Option.some.inj (ht.symm.trans h2)
  rw [World.var?_cell hg h3 o]
  have := cell_of_trod fuel n t _ d p o v h4 hc
  simpa using this
end Go.Proofs.YtdaeiicdpfghlaaDoor.Laidc
