/- The words of a machine on plain data, and that the program does what this machine does. -/
import Derived.Test.YtjegmlclpecpdaaDoorEb
import Derived.ChangeArms
import Derived.Deep.Slices
import Derived.SizedLaws
import Derived.Carry
import Derived.WideShapes
import Derived.OpenShut
import Derived.FnData
import Derived.LaidMore
import Derived.LaidByTextLater
import Derived.Below
namespace Go.Eng
open Go.RowKit Go.WideShapes
set_option linter.unusedVariables false
set_option linter.unusedSimpArgs false

def RdL (W : World) (F : Nat → Prop) (ds : List D) (cs : List Value) : Prop := cs.length = ds.length ∧ ∀ (i : Nat) d, ds[i]? = some d → ∃ u, cs[i]? = some u ∧ DR W F d u

def OpD {α : Type} {H : Type} (enc : TypeId × Value → H) (P : Program) (W : World) (F : Nat → Prop) (base : Nat) (spare : Nat → Bool) (held : Bool) (t : TypeId) (rd : α → List D) (ok : α → Prop) (n : Nat) : Prop :=
  ∀ cs x, DataW.trod enc P W base spare held n t cs = some x → (∀ m ∈ x.1.weights P t, m ≤ reachBytes) → ∃ a, RdL W F (rd a) cs ∧ ok a
def OpDF {α : Type} {H : Type} (enc : TypeId × Value → H) (P : Program) (W : World) (F : Nat → Prop) (base : Nat) (spare : Nat → Bool) (held : Bool) (o : Nat) (fs : List Field) (rd : α → List D) (ok : α → Prop) (n : Nat) : Prop :=
  ∀ (cs : List Value) (ys : List (DataW H × List MemPlace)), (∀ (i : Nat) (f : Field), fs[i]? = some f → DataW.trod enc P W base spare held n f.type ((cs.drop f.offset).take (P.cellsOf f.type)) = ys[i]?) → ys.length = fs.length →
    (∀ m ∈ DataW.weightsEach P (fs.map (·.type)) (ys.map (·.1)), m ≤ reachBytes) → ∃ a sz, RdL W F (rd a) ((cs.drop o).take sz) ∧ ok a ∧ sz = ((fs.map fun f => P.cellsOf f.type).foldr (· + ·) 0)

theorem RdL.one {W : World} {F : Nat → Prop} {v : Value} (h : one v = true) : RdL W F [.sc v] [v] := ⟨rfl, fun i d hd => by
  cases i with
  | zero => cases hd; exact ⟨v, rfl, .sc v h⟩
  | succ i => simp at hd⟩
theorem RdL.append {W : World} {F : Nat → Prop} {d1 d2 : List D} {c1 c2 : List Value} (h1 : RdL W F d1 c1) (h2 : RdL W F d2 c2) : RdL W F (d1 ++ d2) (c1 ++ c2) := ⟨by simp [h1.1, h2.1], fun i d hd => by
  by_cases hi : i < d1.length
  · rw [List.getElem?_append_left hi] at hd
    rw [List.getElem?_append_left (by rw [h1.1]; exact hi)]
    exact h1.2 i d hd
  · rw [List.getElem?_append_right (by omega)] at hd
    rw [List.getElem?_append_right (by rw [h1.1]; omega), h1.1]
    exact h2.2 _ d hd⟩

section
variable {α β : Type} {H : Type} {enc : TypeId × Value → H} {P : Program} {W : World} {F : Nat → Prop} {base : Nat} {spare : Nat → Bool} {held : Bool} {n : Nat} {t e : TypeId}

theorem opD_int {k : IntKind} (ht : P.underlying t = some (.int k)) : OpD enc P W F base spare held t (fun m => [.sc (.int k m)]) (fun a => (Lit.int k a).wf = true) n := by
  intro cs x h _
  obtain ⟨m, rfl, rfl, hw⟩ := DataW.trod_int ht h
  exact ⟨m, RdL.one rfl, hw⟩
theorem opD_bool (ht : P.underlying t = some .bool) : OpD enc P W F base spare held t (fun b => [.sc (.bool b)]) (fun _ => True) n := by
  intro cs x h _
  obtain ⟨b, rfl, rfl⟩ := DataW.trod_bool ht h
  exact ⟨b, RdL.one rfl, trivial⟩
theorem opD_string (ht : P.underlying t = some .string) : OpD enc P W F base spare held t (fun s : List UInt8 => [.sc (.string (st s))]) (fun s => s.length ≤ 140737488351232) n := by
  intro cs x h hw
  obtain ⟨s, rfl, rfl, _⟩ := DataW.trod_string ht h
  have := hw s.data.toList.length (by simp [DataW.weights])
  exact ⟨bl s, by show RdL W F [D.sc (Value.string (st (bl s)))] _; rw [st_bl]; exact RdL.one rfl, by simpa [reachBytes, bl] using this⟩

theorem weightsAll_mem {P : Program} {e : TypeId} : ∀ {l : List (DataW H)} {d : DataW H}, d ∈ l → ∀ m ∈ d.weights P e, m ∈ DataW.weightsAll P e l
  | d0 :: l, d, hd, m, hm => by
    simp only [DataW.weightsAll, List.mem_append]
    rcases List.mem_cons.1 hd with rfl | hd
    · exact .inl hm
    · exact .inr (weightsAll_mem hd m hm)

theorem cell_spot {w : World} {a : Addr} {u : Value} (h : w.cell? a = some u) : a.spot = none := by
  unfold World.cell? at h
  split at h
  · split at h
    · cases h
    · rename_i hs; simpa using hs
  · cases h

theorem opD_slice {rd : α → List D} {ok : α → Prop} {s B : Nat} (hF : ∀ a u, W.cell? a = some u → F a.block) (ht : P.underlying t = some (.slice e)) (hB : P.bytesOf e = B) (hsz : P.cellsOf e = s) (hs : 0 < s) (hr : ∀ a, (rd a).length = s)
    (h : ∀ m, m < n → OpD enc P W F base spare held e rd ok m) : OpD enc P W F base spare held t (fun xs : List α => [.fz (xs.map rd)]) (fun xs => xs.length * B ≤ 140737488351232 ∧ xs.length ≤ 9223372036854775807 ∧ ∀ a ∈ xs, ok a) n := by
  intro cs x hx hw
  rcases DataW.trod_slice ht hx with ⟨rfl, rfl⟩ | ⟨a, len, cap, elems, rest, n', rfl, rfl, rfl, hb, hl, hc, hlen, hel, _, _⟩
  · refine ⟨[], ⟨rfl, fun i d hd => ?_⟩, by simp, by simp, by simp⟩
    cases i with
    | zero => cases hd; exact ⟨_, rfl, .nil _ _⟩
    | succ i => simp at hd
  have key : ∀ k, k ≤ len → ∃ xs : List α, xs.length = k ∧ (∀ a ∈ xs, ok a) ∧ ∀ (j : Nat) p, xs[j]? = some p → ∀ (i : Nat) d, (rd p)[i]? = some d → ∃ u, W.cell? (a.add (j * s + i)) = some u ∧ DR W F d u := by
    intro k
    induction k with
    | zero => exact fun _ => ⟨[], rfl, by simp, by simp⟩
    | succ k ih =>
      intro hk
      obtain ⟨xs, hxl, hok, hxs⟩ := ih (by omega)
      have h1 := hel k (by omega)
      rw [List.getElem?_eq_getElem (show k < elems.length by omega)] at h1
      obtain ⟨cs', hcs, htr⟩ := Option.bind_eq_some_iff.1 h1
      obtain ⟨_, hcl, hat⟩ := World.cells?_some hcs
      obtain ⟨p, hK, hp⟩ := h n' (by omega) cs' _ htr (fun m hm => hw m (by
        simp only [DataW.weights, ht, List.mem_cons, List.mem_append]
        exact .inr (.inl (weightsAll_mem (List.mem_map.2 ⟨_, List.getElem_mem _, rfl⟩) m hm))))
      refine ⟨xs ++ [p], by simp [hxl], ?_, ?_⟩
      · intro q hq
        rcases List.mem_append.1 hq with hq | hq
        · exact hok q hq
        · rw [List.mem_singleton.1 hq]
          exact hp
      · intro j q hj
        rcases Nat.lt_or_ge j k with hjk | hjk
        · rw [List.getElem?_append_left (by omega)] at hj
          exact hxs j q hj
        · have hjl : j < (xs ++ [p]).length := (List.getElem?_eq_some_iff.1 hj).1
          have : j = k := by simp at hjl; omega
          subst this
          rw [List.getElem?_append_right (by omega), hxl, Nat.sub_self] at hj
          obtain rfl := Option.some.inj hj
          intro i d hd
          obtain ⟨u, hu, hdr⟩ := hK.2 i d hd
          have hil : i < cs'.length := (List.getElem?_eq_some_iff.1 hu).1
          have h3 := hat i (by omega)
          rw [hsz, Go.Deep.add_add] at h3
          exact ⟨u, by rw [h3, hu], hdr⟩
  obtain ⟨xs, hxl, hok, hxs⟩ := key len (Nat.le_refl _)
  have hlm : len ≤ 9223372036854775807 := by unfold maxLen at hc; omega
  refine ⟨xs, ⟨rfl, fun i d hd => ?_⟩, ?_, by omega, hok⟩
  · cases i with
    | succ i => simp at hd
    | zero =>
      cases hd
      refine ⟨_, rfl, ?_⟩
      cases len with
      | zero =>
        have : xs = [] := List.length_eq_zero_iff.1 hxl
        subst this
        exact .nil _ _
      | succ k =>
        have h00 : ∃ u, W.cell? (a.add 0) = some u ∧ True := by
          obtain ⟨p, hp⟩ : ∃ p, xs[0]? = some p := ⟨xs[0], List.getElem?_eq_getElem (by omega)⟩
          obtain ⟨d, hd⟩ : ∃ d, (rd p)[0]? = some d := ⟨(rd p)[0]'(by rw [hr]; exact hs), List.getElem?_eq_getElem _⟩
          obtain ⟨u, hu, _⟩ := hxs 0 p hp 0 d hd
          exact ⟨u, by simpa using hu, trivial⟩
        obtain ⟨u0, hu0, _⟩ := h00
        have hsp := cell_spot hu0
        have hbk := hF _ _ hu0
        obtain ⟨b, o, sp⟩ := a
        have hsp' : sp = none := by simpa [Addr.add] using hsp
        subst hsp'
        have hbk' : F b := by simpa [Addr.add] using hbk
        have hfill : ∀ (i : Nat) (r : List D) (c : Nat) (y : D), (xs.map rd)[i]? = some r → r[c]? = some y → ∃ u, W.cell? ⟨b, o + (i * s + c), none⟩ = some u ∧ DR W F y u := fun i r c y hi hy => by
          rw [List.getElem?_map, Option.map_eq_some_iff] at hi
          obtain ⟨p, hp, rfl⟩ := hi
          obtain ⟨u, hu, hdr⟩ := hxs i p hp c y hy
          rw [add_off] at hu
          exact ⟨u, hu, hdr⟩
        have e : (xs.map rd).length = k + 1 := by simp [hxl]
        rw [← e]
        refine .fz (xs.map rd) b o cap s (fun i c => (W.cell? ⟨b, o + (i * s + c), none⟩).getD undef) (by simp [hxl]; omega) (fun r hr2 => by
          obtain ⟨p, _, rfl⟩ := List.mem_map.1 hr2; exact hr p) hbk' (fun i r c y hi hy => ?_) (fun i r c y hi hy => ?_)
        · obtain ⟨u, hu, _⟩ := hfill i r c y hi hy
          rw [hu]; rfl
        · obtain ⟨u, hu, hdr⟩ := hfill i r c y hi hy
          rw [hu]; exact hdr
  · have := hw _ (by simp only [DataW.weights, ht]; exact List.mem_cons_self)
    simp only [List.length_map, hlen, hB, reachBytes] at this
    rw [hxl]
    exact Nat.le_trans (Nat.mul_le_mul_right _ (Nat.le_add_right _ _)) this

theorem opDF_nil {o : Nat} : OpDF enc P W F base spare held o [] (fun _ : Unit => []) (fun _ => True) n := by
  intro cs ys _ _ _
  exact ⟨(), 0, ⟨by simp, fun i d hd => by simp at hd⟩, trivial, rfl⟩
theorem opDF_cons {f : Field} {fs : List Field} {o s : Nat} {r1 : α → List D} {r2 : β → List D} {ok1 : α → Prop} {ok2 : β → Prop} (ho : f.offset = o) (hs : P.cellsOf f.type = s) (h : OpD enc P W F base spare held f.type r1 ok1 n)
    (hr : OpDF enc P W F base spare held (o + s) fs r2 ok2 n) : OpDF enc P W F base spare held o (f :: fs) (fun x : α × β => r1 x.1 ++ r2 x.2) (fun x => ok1 x.1 ∧ ok2 x.2) n := by
  intro cs ys hf hl hw
  match ys, hl with
  | y :: ys, hl =>
    have h1 := hf 0 f rfl
    rw [ho, hs] at h1
    obtain ⟨a, ha, hoka⟩ := h _ y h1 (fun m hm => hw m (by simp [DataW.weightsEach, hm]))
    obtain ⟨b, sz, hb, hokb, hsz⟩ := hr cs ys (fun i g hg => by have := hf (i + 1) g (by simpa using hg); simpa using this) (by simpa using hl) (fun m hm => hw m (by
      simp only [List.map_cons, DataW.weightsEach, List.mem_append]
      exact .inr hm))
    refine ⟨(a, b), s + sz, ?_, ⟨hoka, hokb⟩, by simp [hs, hsz]⟩
    have e : (cs.drop o).take (s + sz) = (cs.drop o).take s ++ (cs.drop (o + s)).take sz := by rw [List.take_add, List.drop_drop]
    rw [e]
    exact ha.append hb
theorem opD_struct {fs : Array Field} {rd : α → List D} {ok : α → Prop} {f : β → α} (g : α → β) (ht : P.underlying t = some (.struct fs)) (hC : P.cellsOf t = (fs.toList.map fun f => P.cellsOf f.type).foldr (· + ·) 0) (hg : ∀ a, f (g a) = a)
    (h : ∀ m, m < n → OpDF enc P W F base spare held 0 fs.toList rd ok m) : OpD enc P W F base spare held t (fun b => rd (f b)) (fun b => ok (f b)) n := by
  intro cs x hx hw
  obtain ⟨ys, m, hm, rfl, hcl, hyl, hf⟩ := DataW.trod_struct ht hx
  obtain ⟨a, sz, ha, hok, hsz⟩ := h m (by omega) cs ys (fun i f hi => hf i f (by simpa using hi)) (by simpa using hyl) (fun k hk => hw k (by simpa [DataW.weights, ht] using hk))
  refine ⟨g a, ?_, by show ok (f (g a)); rw [hg]; exact hok⟩
  show RdL W F (rd (f (g a))) cs
  rw [hg]
  rw [List.drop_zero, List.take_of_length_le (by rw [hcl, hC, hsz]; exact Nat.le_refl _)] at ha
  exact ha
theorem opD_fix {rd : α → List D} {ok : α → Prop} (h : ∀ n, (∀ m, m < n → OpD enc P W F base spare held t rd ok m) → OpD enc P W F base spare held t rd ok n) : ∀ n, OpD enc P W F base spare held t rd ok n := by
  intro n
  induction n using Nat.strongRecOn with
  | _ n ih => exact h n ih
theorem opD_imp {rd rd' : α → List D} {ok ok' : α → Prop} (h : OpD enc P W F base spare held t rd ok n) (hK : ∀ a, rd a = rd' a) (hok : ∀ a, ok a → ok' a) : OpD enc P W F base spare held t rd' ok' n := by
  intro cs x hx hw
  obtain ⟨a, h1, h2⟩ := h cs x hx hw
  exact ⟨a, hK a ▸ h1, hok _ h2⟩
theorem openedD {rd : α → List D} {ok : α → Prop} {v : Value} {dt : DataW H} {p : List MemPlace} (h : ∀ n, OpD enc P W F base spare held t rd ok n) (ht : DataW.Trod enc P W base spare held t v dt p) {ts : List TypeId} {ds : List (DataW H)} {j : Nat}
    (hsz : (DataW.weightsEach P ts ds).all (· ≤ reachBytes) = true) (hj : ts[j]? = some t) (hd : ds[j]? = some dt) : ∃ a, RdL W F (rd a) v.cells.toList ∧ ok a := by
  obtain ⟨fuel, hf⟩ := ht
  exact h fuel _ _ hf (fun m hm => by simpa using List.all_eq_true.1 hsz _ (DataW.weights_mem_each hj hd m hm))
end


def cellAt (P : Program) : Nat → TypeId → DataW Unit → Nat → Option Value
  | 0, _, _, _ => none
  | n + 1, t, .lit l, o => if o = 0 then (match P.underlying t, l with
    | some (.int _), .int k m => some (.int k m)
    | some .bool, .bool b => some (.bool b)
    | some .string, .string bs => some (.string ⟨bs.toArray⟩)
    | _, _ => none) else none
  | n + 1, t, .agg ds, o => match P.underlying t with
    | some (.array m e) => if o / P.cellsOf e < m ∧ 0 < P.cellsOf e then (ds[o / P.cellsOf e]?).bind fun d => cellAt P n e d (o % P.cellsOf e) else none
    | some (.struct fs) => (List.range fs.size).findSome? fun i => (fs[i]?).bind fun f => (ds[i]?).bind fun d => if f.offset ≤ o ∧ o - f.offset < P.cellsOf f.type then cellAt P n f.type d (o - f.offset) else none
    | _ => none
  | _, _, _, _ => none
theorem take_drop {α : Type} (cs : List α) (a b i : Nat) (v : α) (h : ((cs.drop a).take b)[i]? = some v) : cs[a + i]? = some v := by
  rw [List.getElem?_take] at h
  split at h
  · rw [List.getElem?_drop] at h
    exact h
  · simp at h
theorem cell_of_trod {P : Program} {w : World} {held : Bool} {spare : Nat → Bool} {base : Nat} : ∀ (m n : Nat) (t : TypeId) (cs : List Value) (d : DataW Unit) (p : List MemPlace) (o : Nat) (v : Value),
    DataW.trod (fun _ => ()) P w base spare held m t cs = some (d, p) → cellAt P n t d o = some v → cs[o]? = some v := by
  intro m n
  induction n generalizing m with
  | zero => intro t cs d p o v _ h; simp [cellAt] at h
  | succ n ih =>
    intro t cs d p o v ht hc
    cases d with
    | lit l =>
      simp only [cellAt] at hc
      split at hc
      · rename_i h0
        subst h0
        split at hc
        · rename_i hu
          obtain ⟨q, rfl, hx, _⟩ := DataW.trod_int hu ht
          simp only [Prod.mk.injEq, DataW.lit.injEq, Lit.int.injEq] at hx
          obtain ⟨⟨rfl, rfl⟩, _⟩ := hx
          simpa using hc
        · rename_i hu
          obtain ⟨q, rfl, hx⟩ := DataW.trod_bool hu ht
          simp only [Prod.mk.injEq, DataW.lit.injEq, Lit.bool.injEq] at hx
          obtain ⟨rfl, _⟩ := hx
          simpa using hc
        · rename_i hu
          obtain ⟨q, rfl, hx, _⟩ := DataW.trod_string hu ht
          simp only [Prod.mk.injEq, DataW.lit.injEq, Lit.string.injEq] at hx
          obtain ⟨rfl, _⟩ := hx
          simpa using hc
        · simp at hc
      · simp at hc
    | agg ds =>
      simp only [cellAt] at hc
      split at hc
      · rename_i k e hu
        split at hc
        · rename_i hk
          obtain ⟨xs, m', rfl, hx, _, hxl, hel⟩ := DataW.trod_array hu ht
          obtain ⟨hd, _⟩ := Prod.mk.inj hx
          obtain rfl := DataW.agg.inj hd
          obtain ⟨d', hd', hc'⟩ := Option.bind_eq_some_iff.1 hc
          rw [List.getElem?_map] at hd'
          obtain ⟨x, hx1, rfl⟩ := Option.map_eq_some_iff.1 hd'
          have h1 := hel (o / P.cellsOf e) hk.1
          rw [hx1] at h1
          have h2 := take_drop _ _ _ _ _ (ih m' e _ x.1 x.2 _ v h1 hc')
          rw [show o / P.cellsOf e * P.cellsOf e + o % P.cellsOf e = o from Nat.div_add_mod' o _] at h2
          exact h2
        · simp at hc
      · rename_i fs hu
        obtain ⟨xs, m', rfl, hx, _, hxl, hel⟩ := DataW.trod_struct hu ht
        obtain ⟨hd, _⟩ := Prod.mk.inj hx
        obtain rfl := DataW.agg.inj hd
        obtain ⟨i, hi, hc1⟩ := List.exists_of_findSome?_eq_some hc
        obtain ⟨f, hf, hc2⟩ := Option.bind_eq_some_iff.1 hc1
        obtain ⟨d', hd', hc'⟩ := Option.bind_eq_some_iff.1 hc2
        split at hc'
        · rename_i hk
          rw [List.getElem?_map] at hd'
          obtain ⟨x, hx1, rfl⟩ := Option.map_eq_some_iff.1 hd'
          have h1 := hel i f hf
          rw [hx1] at h1
          have h2 := take_drop _ _ _ _ _ (ih m' f.type _ x.1 x.2 _ v h1 hc')
          rw [show f.offset + (o - f.offset) = o from by omega] at h2
          exact h2
        · simp at hc'
      · simp at hc
    | _ => simp [cellAt] at hc
theorem of_laidVars {P : Program} {w : World} : ∀ (laid : List (String × DataW Unit)) (ps : List MemPlace), DataW.LaidVars P w laid ps → ∀ (name : String) (d : DataW Unit), (name, d) ∈ laid →
    ∃ g t cs fuel p, P.globalNamed name = some g ∧ (P.globals[g]?).map (·.type) = some t ∧ w.var? P name = some cs ∧ DataW.trod (fun _ => ()) P w 0 (fun _ => true) false fuel t cs.toList = some (d, p)
  | [], _, _, _, _, h => by simp at h
  | (n0, d0) :: r, ps, hl, name, d, h => by
    obtain ⟨g, t, cs, fuel, p, q, h1, h2, h3, h4, h5, _⟩ := hl
    rcases List.mem_cons.1 h with h | h
    · obtain ⟨rfl, rfl⟩ := Prod.mk.inj h
      exact ⟨g, t, cs, fuel, p, h1, h2, h3, h4⟩
    · exact of_laidVars r q h5 name d h
theorem cells_of_laid {P : Program} {W : World} {laid : List (String × DataW Unit)} (hp : (laid.filter fun x => x.2.handleName?.isSome) = []) (h : laidMetH P laid W) {name : String} {d : DataW Unit} (hm : (name, d) ∈ laid)
    {g : Nat} (hg : P.globalNamed name = some g) {t : TypeId} (ht : (P.globals[g]?).map (·.type) = some t) (n : Nat) (vals : List Value) (hc : (List.range vals.length).map (cellAt P n t d) = vals.map some) : ∀ (o : Nat) v, vals[o]? = some v → W.cell? ⟨g, o, none⟩ = some v := by
  intro o v hv
  have hlt := (List.getElem?_eq_some_iff.1 hv).1
  have hco : cellAt P n t d o = some v := by
    have h1 : ((List.range vals.length).map (cellAt P n t d))[o]? = some (cellAt P n t d o) := by simp [hlt]
    rw [hc, List.getElem?_map, hv] at h1
    simpa using h1.symm
  unfold laidMetH at h
  rw [hp] at h
  obtain ⟨ps, hl, _⟩ := h
  obtain ⟨g', t', cs, fuel, p, h1, h2, h3, h4⟩ := of_laidVars laid ps hl name d hm
  obtain rfl := Option.some.inj (hg.symm.trans h1)
  obtain rfl := Option.some.inj (ht.symm.trans h2)
  rw [World.var?_cell hg h3 o]
  have := cell_of_trod fuel n t _ d p o v h4 hco
  simpa using this

def B0 (W : World) : Base := { x := { w := W, F := fun k => k < W.heap.size, μ := fun _ => none, N := fun _ => none, L := 0 }, A := fun _ => False }
theorem cell_lt {W : World} {a : Addr} {u : Value} (h : W.cell? a = some u) : a.block < W.heap.size := by
  unfold World.cell? at h
  split at h
  · rename_i hb; exact (Array.getElem?_eq_some_iff.1 hb).1
  · cases h
theorem vr_pf {W : World} {g : Nat} {cells : List D} {vals : List Value} (hc : cells = vals.map .sc) (h1 : allOne vals = true) (h : ∀ (o : Nat) v, vals[o]? = some v → W.cell? ⟨g, o, none⟩ = some v) : VR (B0 W).x (.pf cells 0) (.pointer (some ⟨g, 0, none⟩)) := by
  subst hc
  refine .pf _ 0 g 0 (fun hne => ?_) (fun k d hd => ?_)
  · obtain ⟨v, hv⟩ : ∃ v, vals[0]? = some v := by
      cases vals with
      | nil => simp at hne
      | cons v l => exact ⟨v, rfl⟩
    exact cell_lt (h 0 v hv)
  · rw [List.getElem?_map, Option.map_eq_some_iff] at hd
    obtain ⟨v, hv, rfl⟩ := hd
    exact ⟨v, by show W.cell? _ = _; simpa using h k v hv, .sc v (allOne_mem h1 v (List.mem_of_getElem? hv))⟩
theorem vr_pa {W : World} {g s : Nat} {rows : List (List D)} {vals : List Value} (hs : ∀ r ∈ rows, r.length = s) (hc : rows.flatten = vals.map .sc) (h1 : allOne vals = true) (h0 : 0 < s) (h : ∀ (o : Nat) v, vals[o]? = some v → W.cell? ⟨g, o, none⟩ = some v) : VR (B0 W).x (.pa rows) (.pointer (some ⟨g, 0, none⟩)) := by
  have hcell : ∀ (i : Nat) (r : List D) (c : Nat) (d : D), rows[i]? = some r → r[c]? = some d → ∃ u, W.cell? ⟨g, 0 + (i * s + c), none⟩ = some u ∧ DR W (B0 W).x.F d u := fun i r c d hi hd => by
    have hcl : c < s := by rw [← hs r (List.mem_of_getElem? hi)]; exact (List.getElem?_eq_some_iff.1 hd).1
    have hf := flat_get hs i c r hi hcl
    rw [hd, hc, List.getElem?_map, Option.map_eq_some_iff] at hf
    obtain ⟨v, hv, rfl⟩ := hf
    exact ⟨v, by rw [Nat.zero_add]; exact h _ v hv, .sc v (allOne_mem h1 v (List.mem_of_getElem? hv))⟩
  refine .pa rows g 0 s (fun hne => ?_) hs hcell
  cases rows with
  | nil => simp at hne
  | cons r l =>
    have hr := hs r (by simp)
    obtain ⟨u, hu, _⟩ := hcell 0 r 0 (r[0]'(by omega)) rfl (List.getElem?_eq_getElem _)
    exact cell_lt hu

theorem rd_agg {W : World} {ds : List D} {cs : Array Value} (h : RdL W (B0 W).x.F ds cs.toList) : VA (B0 W).x (.agg (ds.map .d)) (.agg cs) := by
  refine .agg _ _ ⟨by rw [List.length_map, ← h.1, Array.length_toList], fun i c hc => ?_⟩
  rw [List.getElem?_map, Option.map_eq_some_iff] at hc
  obtain ⟨d, hd, rfl⟩ := hc
  obtain ⟨u, hu, hr⟩ := h.2 i d hd
  exact ⟨u, by simpa using hu, .d _ _ hr⟩
theorem rd_one {W : World} {d : D} {v : Value} (h : RdL W (B0 W).x.F [d] [v]) : VA (B0 W).x (.c (.d d)) v := by
  obtain ⟨u, hu, hr⟩ := h.2 0 d rfl
  cases hu
  exact .c _ _ (.d _ _ hr)

theorem run_true {E : Env} {f : FuncId} {args : List A} {W : World} {vs : Array Value} (h : AFn E f args [] (.c (.d (.sc (.bool true)))) []) (hB : (B0 W).ok E) (hT : TR (B0 W).x args vs) :
    Calls E.P f vs W fun e w' => e = .returned (.bool true) ∧ Below W.heap.size W w' := by
  have hR : Rel (B0 W) (B0 W).x (fun _ _ => False) [] := ⟨rfl, fun id => by simp [B0, nOf], .refl _, rfl, rfl, rfl, fun _ _ _ => rfl, fun _ _ h => h.elim, fun k hk => ⟨hk, .inl hk⟩, fun _ _ _ h => h.elim, fun _ _ h => h.elim, fun id b hb => by simp at hb⟩
  refine (h.2 (B0 W) vs W hB rfl ⟨(B0 W).x, fun _ _ => False, rfl, hR, hT⟩).mono ?_
  rintro e w' ⟨v, rfl, x, O, rfl, hR', hT'⟩
  obtain ⟨u, hu, hv⟩ := hT'.2 0 _ rfl
  cases hu
  cases hv with | c _ _ hv => cases hv with | d _ _ hv => cases hv with | sc _ _ =>
  exact ⟨rfl, ⟨hR'.os, hR'.tape, hR'.output, hR'.le.size, fun k hk => hR'.keep k hk (fun h => h)⟩⟩
end Go.Eng
namespace Go.Eng
open Go.RowKit
set_option linter.unusedVariables false
set_option linter.unusedSimpArgs false

def gt {α : Type} [Inhabited α] (l : List α) (i : Nat) : α := l.getD i default
theorem gt_cons0 {α : Type} [Inhabited α] (a : α) (l : List α) : gt (a :: l) 0 = a := rfl
theorem gt_mem {α : Type} [Inhabited α] {l : List α} {i : Nat} (h : i < l.length) : gt l i ∈ l := by
  simp [gt, List.getD, h]
theorem drop_gt {α : Type} [Inhabited α] {l : List α} {i : Nat} (h : i < l.length) : l.drop i = gt l i :: l.drop (i + 1) := by
  rw [List.drop_eq_getElem_cons h]; simp [gt, List.getD, h]
theorem rowsAt_map {α : Type} [Inhabited α] (f : α → List D) (l : List α) (i : Nat) (h : i < l.length) : rowsAt (l.map f) i = f (gt l i) := by
  simp [rowsAt, gt, List.getD, h]

theorem zS {P Q : Prop} (h : Q) (e : P = Q := by (simp (maxSteps := 500000) (disch := omega) only [go_sem, Bool.not_not, List.mem_singleton, forall_eq, ↓reduceIte, if_pos, rowsAt_map, wrap64, wrapu8, List.getElem?_cons_zero, List.getElem?_cons_succ, Int.reduceToNat, Nat.reduceAdd, Nat.reduceBEq, Bool.or_false, Bool.false_or, Bool.true_or, Nat.reduceSub, Nat.reduceMul, Int.reduceAdd, Int.reduceEq, Int.reduceLT, Int.reduceLE, Int.reduceNeg, Nat.reduceLT, Nat.reduceLeDiff, Nat.reduceEqDiff]; try exact rfl)) : P := e.mpr h
theorem zH {A P Q : Prop} (a : A) (h : Q) (e : A → P = Q := by (intro hb2; simp (maxSteps := 500000) (disch := omega) only [go_sem, Bool.not_not, List.mem_singleton, forall_eq, ↓reduceIte, if_pos, rowsAt_map, wrap64, wrapu8, List.getElem?_cons_zero, List.getElem?_cons_succ, Int.reduceToNat, Nat.reduceAdd, Nat.reduceBEq, Bool.or_false, Bool.false_or, Bool.true_or, Nat.reduceSub, Nat.reduceMul, Int.reduceAdd, Int.reduceEq, Int.reduceLT, Int.reduceLE, Int.reduceNeg, Nat.reduceLT, Nat.reduceLeDiff, Nat.reduceEqDiff, hb2]; try exact rfl)) : P := (e a).mpr h
theorem zT {P Q : Prop} (h : Q) (e : P = Q := by (simp only [go_sem, Bool.not_not, List.mem_singleton, forall_eq, ↓reduceIte, if_pos, rowsAt_map, wrap64, wrapu8, List.getElem?_cons_zero, List.getElem?_cons_succ, Int.reduceToNat, Nat.reduceAdd, Nat.reduceBEq, Bool.or_false, Bool.false_or, Bool.true_or, Nat.reduceSub, Nat.reduceMul, Int.reduceAdd, Int.reduceEq, Int.reduceLT, Int.reduceLE, Int.reduceNeg, Nat.reduceLT, Nat.reduceLeDiff, Nat.reduceEqDiff]; try exact rfl)) : P := e.mpr h
theorem zC {P : Prop} (h : P := by (simp only [go_sem, Bool.not_not, List.mem_singleton, forall_eq, ↓reduceIte, if_pos, rowsAt_map, wrap64, wrapu8, List.getElem?_cons_zero, List.getElem?_cons_succ, Int.reduceToNat, Nat.reduceAdd, Nat.reduceBEq, Bool.or_false, Bool.false_or, Bool.true_or, Nat.reduceSub, Nat.reduceMul, Int.reduceAdd, Int.reduceEq, Int.reduceLT, Int.reduceLE, Int.reduceNeg, Nat.reduceLT, Nat.reduceLeDiff, Nat.reduceEqDiff]; try simp)) : P := h
theorem zD {P : Prop} (h : P := by (simp only [go_sem, Bool.not_not, List.mem_singleton, forall_eq, ↓reduceIte, if_pos, rowsAt_map, wrap64, wrapu8, List.getElem?_cons_zero, List.getElem?_cons_succ, Int.reduceToNat, Nat.reduceAdd, Nat.reduceBEq, Bool.or_false, Bool.false_or, Bool.true_or, Nat.reduceSub, Nat.reduceMul, Int.reduceAdd, Int.reduceEq, Int.reduceLT, Int.reduceLE, Int.reduceNeg, Nat.reduceLT, Nat.reduceLeDiff, Nat.reduceEqDiff]; done)) : P := h
theorem zF {P : Prop} (h : P := by (simp only [go_sem, Bool.not_not, List.mem_singleton, forall_eq, ↓reduceIte, if_pos, rowsAt_map, wrap64, wrapu8, List.getElem?_cons_zero, List.getElem?_cons_succ, Int.reduceToNat, Nat.reduceAdd, Nat.reduceBEq, Bool.or_false, Bool.false_or, Bool.true_or, Nat.reduceSub, Nat.reduceMul, Int.reduceAdd, Int.reduceEq, Int.reduceLT, Int.reduceLE, Int.reduceNeg, Nat.reduceLT, Nat.reduceLeDiff, Nat.reduceEqDiff]; first | done | rfl | fail)) : P := h
section
variable {E : Env} {T : List A} {H : Heap} {Q : Exit → List A → Heap → Prop} {m : Nat} {c : Operand} {x y : Code}
theorem zcdT (h1 : AWP E x T H Q m) (hc : ofBool (ev E T c) = some true := by (simp (maxSteps := 500000) (disch := omega) only [go_sem, Bool.not_not, List.mem_singleton, forall_eq, ↓reduceIte, if_pos, rowsAt_map, wrap64, wrapu8, List.getElem?_cons_zero, List.getElem?_cons_succ, Int.reduceToNat, Nat.reduceAdd, Nat.reduceBEq, Bool.or_false, Bool.false_or, Bool.true_or, Nat.reduceSub, Nat.reduceMul, Int.reduceAdd, Int.reduceEq, Int.reduceLT, Int.reduceLE, Int.reduceNeg, Nat.reduceLT, Nat.reduceLeDiff, Nat.reduceEqDiff]; first | done | fail)) : AWP E (.cond c x y) T H Q m := awp_cond_t hc h1
theorem zcdF (h1 : AWP E y T H Q m) (hc : ofBool (ev E T c) = some false := by (simp (maxSteps := 500000) (disch := omega) only [go_sem, Bool.not_not, List.mem_singleton, forall_eq, ↓reduceIte, if_pos, rowsAt_map, wrap64, wrapu8, List.getElem?_cons_zero, List.getElem?_cons_succ, Int.reduceToNat, Nat.reduceAdd, Nat.reduceBEq, Bool.or_false, Bool.false_or, Bool.true_or, Nat.reduceSub, Nat.reduceMul, Int.reduceAdd, Int.reduceEq, Int.reduceLT, Int.reduceLE, Int.reduceNeg, Nat.reduceLT, Nat.reduceLeDiff, Nat.reduceEqDiff]; first | done | fail)) : AWP E (.cond c x y) T H Q m := awp_cond_f hc h1
theorem zcdD {p : Prop} {inst : Decidable p} (h1 : p → @decide p inst = true → AWP E x T H Q m) (h2 : ¬ p → @decide p inst = false → AWP E y T H Q m) (hc : ofBool (ev E T c) = some (decide p) := by (simp (maxSteps := 500000) (disch := omega) only [go_sem, Bool.not_not, List.mem_singleton, forall_eq, ↓reduceIte, if_pos, rowsAt_map, wrap64, wrapu8, List.getElem?_cons_zero, List.getElem?_cons_succ, Int.reduceToNat, Nat.reduceAdd, Nat.reduceBEq, Bool.or_false, Bool.false_or, Bool.true_or, Nat.reduceSub, Nat.reduceMul, Int.reduceAdd, Int.reduceEq, Int.reduceLT, Int.reduceLE, Int.reduceNeg, Nat.reduceLT, Nat.reduceLeDiff, Nat.reduceEqDiff]; first | done | rfl | fail)) : AWP E (.cond c x y) T H Q m := cond_d hc h1 h2
theorem zcdN {p : Prop} {inst : Decidable p} (h1 : ¬ p → @decide p inst = false → AWP E x T H Q m) (h2 : p → @decide p inst = true → AWP E y T H Q m) (hc : ofBool (ev E T c) = some (!decide p) := by (simp (maxSteps := 500000) (disch := omega) only [go_sem, Bool.not_not, List.mem_singleton, forall_eq, ↓reduceIte, if_pos, rowsAt_map, wrap64, wrapu8, List.getElem?_cons_zero, List.getElem?_cons_succ, Int.reduceToNat, Nat.reduceAdd, Nat.reduceBEq, Bool.or_false, Bool.false_or, Bool.true_or, Nat.reduceSub, Nat.reduceMul, Int.reduceAdd, Int.reduceEq, Int.reduceLT, Int.reduceLE, Int.reduceNeg, Nat.reduceLT, Nat.reduceLeDiff, Nat.reduceEqDiff]; first | done | rfl | fail)) : AWP E (.cond c x y) T H Q m := cond_nd hc h1 h2
theorem zcdM {b : Bool} (h1 : b = false → AWP E x T H Q m) (h2 : b = true → AWP E y T H Q m) (hc : ofBool (ev E T c) = some (!b) := by (simp (maxSteps := 500000) (disch := omega) only [go_sem, Bool.not_not, List.mem_singleton, forall_eq, ↓reduceIte, if_pos, rowsAt_map, wrap64, wrapu8, List.getElem?_cons_zero, List.getElem?_cons_succ, Int.reduceToNat, Nat.reduceAdd, Nat.reduceBEq, Bool.or_false, Bool.false_or, Bool.true_or, Nat.reduceSub, Nat.reduceMul, Int.reduceAdd, Int.reduceEq, Int.reduceLT, Int.reduceLE, Int.reduceNeg, Nat.reduceLT, Nat.reduceLeDiff, Nat.reduceEqDiff]; first | done | rfl | fail)) : AWP E (.cond c x y) T H Q m := cond_nb hc h1 h2
theorem zcdB {b : Bool} (h1 : b = true → AWP E x T H Q m) (h2 : b = false → AWP E y T H Q m) (hc : ofBool (ev E T c) = some b := by (simp (maxSteps := 500000) (disch := omega) only [go_sem, Bool.not_not, List.mem_singleton, forall_eq, ↓reduceIte, if_pos, rowsAt_map, wrap64, wrapu8, List.getElem?_cons_zero, List.getElem?_cons_succ, Int.reduceToNat, Nat.reduceAdd, Nat.reduceBEq, Bool.or_false, Bool.false_or, Bool.true_or, Nat.reduceSub, Nat.reduceMul, Int.reduceAdd, Int.reduceEq, Int.reduceLT, Int.reduceLE, Int.reduceNeg, Nat.reduceLT, Nat.reduceLeDiff, Nat.reduceEqDiff]; first | done | rfl | fail)) : AWP E (.cond c x y) T H Q m := awp_cond hc h1 h2
end
section
variable {E : Env} {T : List A} {H H1 : Heap} {o : Oper} {K : A → Heap → Prop} {f : FuncId} {args al : List A} {Hl hd : Heap} {fo : Operand} {as : Array Operand} {caps : List C} {na b : Bool}
theorem zcF (h : ∃ rl, AFn E f al [] rl [] ∧ (∀ g, renA g rl = rl) ∧ (∀ g, renAs g al = al) ∧ okAs 0 al = true ∧ K rl H1) (ho : opIs o fo as := by exact ⟨_, rfl⟩) (hfo : ev E T fo = .c (.clo (.func f) []) := by rfl)
    (hz : frAs 0 H (as.toList.map (ev E T)) = some (al, H1) := by (simp (maxSteps := 500000) (disch := omega) only [go_sem, Bool.not_not, List.mem_singleton, forall_eq, ↓reduceIte, if_pos, rowsAt_map, wrap64, wrapu8, List.getElem?_cons_zero, List.getElem?_cons_succ, Int.reduceToNat, Nat.reduceAdd, Nat.reduceBEq, Bool.or_false, Bool.false_or, Bool.true_or, Nat.reduceSub, Nat.reduceMul, Int.reduceAdd, Int.reduceEq, Int.reduceLT, Int.reduceLE, Int.reduceNeg, Nat.reduceLT, Nat.reduceLeDiff, Nat.reduceEqDiff]; first | done | rfl | fail)) : CallK E T H o K := callF ho hfo hz h
theorem zcT (sel : List Nat) (h : ∃ rl Hl', AFn E f al Hl rl Hl' ∧ K (renA (gl sel H.length) rl) (mrg (gl sel H.length) sel Hl' H)) (ho : opIs o fo as := by exact ⟨_, rfl⟩) (hfo : ev E T fo = .c (.clo (.func f) caps) := by rfl)
    (hargs : as.toList.map (ev E T) ++ caps.map .c = args := by (simp (maxSteps := 500000) (disch := omega) only [go_sem, Bool.not_not, List.mem_singleton, forall_eq, ↓reduceIte, if_pos, rowsAt_map, wrap64, wrapu8, List.getElem?_cons_zero, List.getElem?_cons_succ, Int.reduceToNat, Nat.reduceAdd, Nat.reduceBEq, Bool.or_false, Bool.false_or, Bool.true_or, Nat.reduceSub, Nat.reduceMul, Int.reduceAdd, Int.reduceEq, Int.reduceLT, Int.reduceLE, Int.reduceNeg, Nat.reduceLT, Nat.reduceLeDiff, Nat.reduceEqDiff]; first | done | rfl | fail)) (hl : invAs sel args = some al := by (simp (maxSteps := 500000) (disch := omega) only [go_sem, Bool.not_not, List.mem_singleton, forall_eq, ↓reduceIte, if_pos, rowsAt_map, wrap64, wrapu8, List.getElem?_cons_zero, List.getElem?_cons_succ, Int.reduceToNat, Nat.reduceAdd, Nat.reduceBEq, Bool.or_false, Bool.false_or, Bool.true_or, Nat.reduceSub, Nat.reduceMul, Int.reduceAdd, Int.reduceEq, Int.reduceLT, Int.reduceLE, Int.reduceNeg, Nat.reduceLT, Nat.reduceLeDiff, Nat.reduceEqDiff]; first | done | rfl | fail)) (hh : invH sel H sel = some Hl := by (simp (maxSteps := 500000) (disch := omega) only [go_sem, Bool.not_not, List.mem_singleton, forall_eq, ↓reduceIte, if_pos, rowsAt_map, wrap64, wrapu8, List.getElem?_cons_zero, List.getElem?_cons_succ, Int.reduceToNat, Nat.reduceAdd, Nat.reduceBEq, Bool.or_false, Bool.false_or, Bool.true_or, Nat.reduceSub, Nat.reduceMul, Int.reduceAdd, Int.reduceEq, Int.reduceLT, Int.reduceLE, Int.reduceNeg, Nat.reduceLT, Nat.reduceLeDiff, Nat.reduceEqDiff]; first | done | rfl | fail)) (hc : chk sel H.length = true := by rfl) : CallK E T H o K := callT sel ho hfo hargs hl hh hc h
theorem zdP (h : ∃ rl, AFn E f al [] rl [] ∧ (∀ g, renA g rl = rl) ∧ (∀ g, renAs g al = al) ∧ okAs 0 al = true ∧ (b = true → na = false ∧ visA hd rl = true) ∧ K rl H) (ho : opIs o fo as := by exact ⟨_, rfl⟩) (hfo : ev E T fo = .c (.clo (.func f) []) := by rfl)
    (hargs : as.toList.map (ev E T) = al := by (simp (maxSteps := 500000) (disch := omega) only [go_sem, Bool.not_not, List.mem_singleton, forall_eq, ↓reduceIte, if_pos, rowsAt_map, wrap64, wrapu8, List.getElem?_cons_zero, List.getElem?_cons_succ, Int.reduceToNat, Nat.reduceAdd, Nat.reduceBEq, Bool.or_false, Bool.false_or, Bool.true_or, Nat.reduceSub, Nat.reduceMul, Int.reduceAdd, Int.reduceEq, Int.reduceLT, Int.reduceLE, Int.reduceNeg, Nat.reduceLT, Nat.reduceLeDiff, Nat.reduceEqDiff]; first | done | rfl | fail)) : DStep E na hd false b T H o K := dcallP ho hfo hargs h
theorem zdW (h : ∃ rl, AFn E f al [] rl [] ∧ (∀ g, renA g rl = rl) ∧ (∀ g, renAs g al = al) ∧ okAs 0 al = true ∧ K rl H) (ho : opIs o fo as := by exact ⟨_, rfl⟩) (hfo : ev E T fo = .c (.clo (.func f) []) := by rfl)
    (hargs : as.toList.map (ev E T) = al := by (simp (maxSteps := 500000) (disch := omega) only [go_sem, Bool.not_not, List.mem_singleton, forall_eq, ↓reduceIte, if_pos, rowsAt_map, wrap64, wrapu8, List.getElem?_cons_zero, List.getElem?_cons_succ, Int.reduceToNat, Nat.reduceAdd, Nat.reduceBEq, Bool.or_false, Bool.false_or, Bool.true_or, Nat.reduceSub, Nat.reduceMul, Int.reduceAdd, Int.reduceEq, Int.reduceLT, Int.reduceLE, Int.reduceNeg, Nat.reduceLT, Nat.reduceLeDiff, Nat.reduceEqDiff]; first | done | rfl | fail)) : DStep E true hd true b T H o K := dcallPw ho hfo hargs h
theorem zdT (sel : List Nat) (h : ∃ rl Hl', AFn E f al Hl rl Hl' ∧ K (renA (gl sel H.length) rl) (mrg (gl sel H.length) sel Hl' H)) (ho : opIs o fo as := by exact ⟨_, rfl⟩) (hfo : ev E T fo = .c (.clo (.func f) caps) := by rfl)
    (hargs : as.toList.map (ev E T) ++ caps.map .c = args := by (simp (maxSteps := 500000) (disch := omega) only [go_sem, Bool.not_not, List.mem_singleton, forall_eq, ↓reduceIte, if_pos, rowsAt_map, wrap64, wrapu8, List.getElem?_cons_zero, List.getElem?_cons_succ, Int.reduceToNat, Nat.reduceAdd, Nat.reduceBEq, Bool.or_false, Bool.false_or, Bool.true_or, Nat.reduceSub, Nat.reduceMul, Int.reduceAdd, Int.reduceEq, Int.reduceLT, Int.reduceLE, Int.reduceNeg, Nat.reduceLT, Nat.reduceLeDiff, Nat.reduceEqDiff]; first | done | rfl | fail)) (hl : invAs sel args = some al := by (simp (maxSteps := 500000) (disch := omega) only [go_sem, Bool.not_not, List.mem_singleton, forall_eq, ↓reduceIte, if_pos, rowsAt_map, wrap64, wrapu8, List.getElem?_cons_zero, List.getElem?_cons_succ, Int.reduceToNat, Nat.reduceAdd, Nat.reduceBEq, Bool.or_false, Bool.false_or, Bool.true_or, Nat.reduceSub, Nat.reduceMul, Int.reduceAdd, Int.reduceEq, Int.reduceLT, Int.reduceLE, Int.reduceNeg, Nat.reduceLT, Nat.reduceLeDiff, Nat.reduceEqDiff]; first | done | rfl | fail)) (hh : invH sel H sel = some Hl := by (simp (maxSteps := 500000) (disch := omega) only [go_sem, Bool.not_not, List.mem_singleton, forall_eq, ↓reduceIte, if_pos, rowsAt_map, wrap64, wrapu8, List.getElem?_cons_zero, List.getElem?_cons_succ, Int.reduceToNat, Nat.reduceAdd, Nat.reduceBEq, Bool.or_false, Bool.false_or, Bool.true_or, Nat.reduceSub, Nat.reduceMul, Int.reduceAdd, Int.reduceEq, Int.reduceLT, Int.reduceLE, Int.reduceNeg, Nat.reduceLT, Nat.reduceLeDiff, Nat.reduceEqDiff]; first | done | rfl | fail)) (hc : chk sel H.length = true := by rfl) : DStep E true hd true b T H o K := dcallT sel ho hfo hargs hl hh hc h
end
end Go.Eng
namespace Go.Eng
open Go.RowKit
set_option linter.unusedVariables false
set_option linter.unusedSimpArgs false

theorem afn_virt {E : Env} {f : FuncId} {s : Nat} {rty : Option TypeId} {args : List A} {rl r0 : A} {Hl' H1 : Heap} (hs : 0 < s) (hf : AFn E f (.c (.own 0 0 0 0) :: args) [some (.rows s [] rty)] rl Hl')
    (hA : renAs (gl [0] 1) args = args) (hok : okAs 1 args = true) (h1 : frA 0 (mrg (gl [0] 1) [0] Hl' [some (.rows s [] rty)]) (renA (gl [0] 1) rl) = some (r0, H1)) (h2 : okR 0 r0 = true) : AFn E f (.c .nils :: args) [] r0 [] := by
  refine ⟨hf.1, fun B vs w hB hL hsr => ?_⟩
  obtain ⟨x, O, rfl, hR, hT⟩ := hsr
  obtain ⟨z, O', e1, l1, f1, m1, L1, R1⟩ := hR.new (.rows s [] rty) x.w none (fun _ => False) rfl rfl rfl (Nat.le_refl _) (fun _ _ => rfl) (fun k hk => hk.elim)
    (fun y hw hle hF hμ => ⟨hs, by simp, .inl ⟨hμ, rfl⟩⟩)
  have hT' : TR z (renAs (gl [0] 1) (.c (.own 0 0 0 0) :: args)) vs := by
    have : renAs (gl [0] 1) (.c (.own 0 0 0 0) :: args) = .c (.own 0 0 0 0) :: args := by
      show _ :: renAs (gl [0] 1) args = _
      rw [hA]; rfl
    rw [this]
    refine ⟨by rw [hT.1]; rfl, fun i b hb => ?_⟩
    cases i with
    | zero =>
      cases hb
      obtain ⟨u, hu, hv⟩ := hT.2 0 _ rfl
      cases hv with | c _ _ hv => cases hv with | nils =>
      refine ⟨_, hu, .c _ _ (.own _ _ _ _ _ ⟨rfl, by rw [L1]; simp, fun s' m' hN => ?_⟩)⟩
      have : z.N 0 = some (s, 0) := by rw [R1.hN]; exact nOf_some (b := .rows s [] rty) (by simp)
      rw [this] at hN
      cases hN
      exact ⟨Nat.le_refl _, fun _ => by rw [show z.μ 0 = none from m1]; simp⟩
    | succ i =>
      obtain ⟨u, hu, hv⟩ := hT.2 (i + 1) b hb
      exact ⟨u, hu, hv.mono l1⟩
  have hc := call_ok (args := id) (r := id) (sel := [0]) hf hB R1 (by simp) (by simp) rfl (fun k b hb => by
    cases k with
    | zero => cases hb; rfl
    | succ k => simp at hb) (by show (okA 1 (.c (.own 0 0 0 0)) && okAs 1 args) = true; rw [hok]; rfl) (by rfl) hT'
  rw [e1] at hc
  refine hc.mono ?_
  rintro e w' ⟨v, rfl, y, O2, rfl, l2, R2, V2⟩
  refine ⟨v, rfl, ?_⟩
  have hsr : SRel B [renA (gl [0] 1) rl] (mrg (gl [0] 1) [0] Hl' [some (.rows s [] rty)]) #[v] y.w := ⟨y, O2, rfl, R2, rfl, fun i b hb => by
    cases i with
    | zero => cases hb; exact ⟨v, rfl, V2⟩
    | succ i => simp at hb⟩
  have hw := fin_wk h1 h2 (Nat.zero_le _) B ⟨#[v], []⟩ y.w hL ⟨rfl, hsr⟩
  obtain ⟨_, x', O', h1, h2, h3⟩ := hw
  exact ⟨x', O', h1, h2, h3⟩

theorem awp_seqQ {E : Env} {x y : Code} {T : List A} {H : Heap} {Q : Exit → List A → Heap → Prop} {m : Nat} (h : ∀ Q', Q' = Q → AWP E x T H (Sq (fun T' H' => AWP E y T' H' Q' m) Q') m) : AWP E (.seq x y) T H Q m := awp_seq (h Q rfl)
theorem q_step {Q Q' : Exit → List A → Heap → Prop} {e : Exit} {T : List A} {H : Heap} (h : Q' = Q) (g : Q e T H) : Q' e T H := by rw [h]; exact g
end Go.Eng
