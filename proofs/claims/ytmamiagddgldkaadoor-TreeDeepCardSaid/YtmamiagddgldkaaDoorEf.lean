/- The words of a machine on plain data, and that the program does what this machine does. -/
import Derived.Test.YtmamiagddgldkaaDoorEe
import Derived.ChangeArms
import Derived.Deep.Slices
import Derived.SizedLaws
import Derived.Carry
import Derived.WideShapes
import Derived.OpenShut
import Derived.FnData
import Derived.LaidMore
import Derived.LaidByTextLater
import Derived.Below
import Derived.ScopeJumps
namespace Go.Eng
open Go.RowKit Go.WideShapes
set_option linter.unusedVariables false
set_option linter.unusedSimpArgs false

def RdL (W : World) (F : Nat → Prop) (ds : List D) (cs : List Value) : Prop := cs.length = ds.length ∧ ∀ (i : Nat) d, ds[i]? = some d → ∃ u, cs[i]? = some u ∧ DR W F d u

def OpD {α : Type} {H : Type} (enc : TypeId × Value → H) (P : Program) (W : World) (F : Nat → Prop) (base : Nat) (spare : Nat → Bool) (held : Bool) (t : TypeId) (rd : α → List D) (ok : α → Prop) (n : Nat) : Prop :=
  ∀ cs x, DataW.trod enc P W base spare held n t cs = some x → (∀ m ∈ x.1.weights P t, m ≤ reachBytes) → ∃ a, RdL W F (rd a) cs ∧ ok a
def OpDF {α : Type} {H : Type} (enc : TypeId × Value → H) (P : Program) (W : World) (F : Nat → Prop) (base : Nat) (spare : Nat → Bool) (held : Bool) (o : Nat) (fs : List Field) (rd : α → List D) (ok : α → Prop) (n : Nat) : Prop :=
  ∀ (cs : List Value) (ys : List (DataW H × List MemPlace)), (∀ (i : Nat) (f : Field), fs[i]? = some f → DataW.trod enc P W base spare held n f.type ((cs.drop f.offset).take (P.cellsOf f.type)) = ys[i]?) → ys.length = fs.length →
    (∀ m ∈ DataW.weightsEach P (fs.map (·.type)) (ys.map (·.1)), m ≤ reachBytes) → ∃ a sz, RdL W F (rd a) ((cs.drop o).take sz) ∧ ok a ∧ sz = ((fs.map fun f => P.cellsOf f.type).foldr (· + ·) 0)

theorem RdL.one {W : World} {F : Nat → Prop} {v : Value} (h : one v = true) : RdL W F [.sc v] [v] := ⟨rfl, fun i d hd => by
  cases i with
  | zero => cases hd; exact ⟨v, rfl, .sc v h⟩
  | succ i => simp at hd⟩
theorem RdL.append {W : World} {F : Nat → Prop} {d1 d2 : List D} {c1 c2 : List Value} (h1 : RdL W F d1 c1) (h2 : RdL W F d2 c2) : RdL W F (d1 ++ d2) (c1 ++ c2) := ⟨by simp [h1.1, h2.1], fun i d hd => by
  by_cases hi : i < d1.length
  · rw [List.getElem?_append_left hi] at hd
    rw [List.getElem?_append_left (by rw [h1.1]; exact hi)]
    exact h1.2 i d hd
  · rw [List.getElem?_append_right (by omega)] at hd
    rw [List.getElem?_append_right (by rw [h1.1]; omega), h1.1]
    exact h2.2 _ d hd⟩

section
variable {α β : Type} {H : Type} {enc : TypeId × Value → H} {P : Program} {W : World} {F : Nat → Prop} {base : Nat} {spare : Nat → Bool} {held : Bool} {n : Nat} {t e : TypeId}

theorem opD_int {k : IntKind} (ht : P.underlying t = some (.int k)) : OpD enc P W F base spare held t (fun m => [.sc (.int k m)]) (fun a => (Lit.int k a).wf = true) n := by
  intro cs x h _
  obtain ⟨m, rfl, rfl, hw⟩ := DataW.trod_int ht h
  exact ⟨m, RdL.one rfl, hw⟩
theorem opD_bool (ht : P.underlying t = some .bool) : OpD enc P W F base spare held t (fun b => [.sc (.bool b)]) (fun _ => True) n := by
  intro cs x h _
  obtain ⟨b, rfl, rfl⟩ := DataW.trod_bool ht h
  exact ⟨b, RdL.one rfl, trivial⟩
theorem opD_string (ht : P.underlying t = some .string) : OpD enc P W F base spare held t (fun s : List UInt8 => [.sc (.string (st s))]) (fun s => s.length ≤ 140737488351232) n := by
  intro cs x h hw
  obtain ⟨s, rfl, rfl, _⟩ := DataW.trod_string ht h
  have := hw s.data.toList.length (by simp [DataW.weights])
  exact ⟨bl s, by show RdL W F [D.sc (Value.string (st (bl s)))] _; rw [st_bl]; exact RdL.one rfl, by simpa [reachBytes, bl] using this⟩

theorem weightsAll_mem {P : Program} {e : TypeId} : ∀ {l : List (DataW H)} {d : DataW H}, d ∈ l → ∀ m ∈ d.weights P e, m ∈ DataW.weightsAll P e l
  | d0 :: l, d, hd, m, hm => by
    simp only [DataW.weightsAll, List.mem_append]
    rcases List.mem_cons.1 hd with rfl | hd
    · exact .inl hm
    · exact .inr (weightsAll_mem hd m hm)

theorem cell_spot {w : World} {a : Addr} {u : Value} (h : w.cell? a = some u) : a.spot = none := by
  unfold World.cell? at h
  split at h
  · split at h
    · cases h
    · rename_i hs; simpa using hs
  · cases h

theorem opD_slice {rd : α → List D} {ok : α → Prop} {s B : Nat} (hF : ∀ a u, W.cell? a = some u → F a.block) (ht : P.underlying t = some (.slice e)) (hB : P.bytesOf e = B) (hsz : P.cellsOf e = s) (hs : 0 < s) (hr : ∀ a, (rd a).length = s)
    (h : ∀ m, m < n → OpD enc P W F base spare held e rd ok m) : OpD enc P W F base spare held t (fun xs : List α => [.fz (xs.map rd)]) (fun xs => xs.length * B ≤ 140737488351232 ∧ xs.length ≤ 9223372036854775807 ∧ ∀ a ∈ xs, ok a) n := by
  intro cs x hx hw
  rcases DataW.trod_slice ht hx with ⟨rfl, rfl⟩ | ⟨a, len, cap, elems, rest, n', rfl, rfl, rfl, hb, hl, hc, hlen, hel, _, _⟩
  · refine ⟨[], ⟨rfl, fun i d hd => ?_⟩, by simp, by simp, by simp⟩
    cases i with
    | zero => cases hd; exact ⟨_, rfl, .nil _ _⟩
    | succ i => simp at hd
  have key : ∀ k, k ≤ len → ∃ xs : List α, xs.length = k ∧ (∀ a ∈ xs, ok a) ∧ ∀ (j : Nat) p, xs[j]? = some p → ∀ (i : Nat) d, (rd p)[i]? = some d → ∃ u, W.cell? (a.add (j * s + i)) = some u ∧ DR W F d u := by
    intro k
    induction k with
    | zero => exact fun _ => ⟨[], rfl, by simp, by simp⟩
    | succ k ih =>
      intro hk
      obtain ⟨xs, hxl, hok, hxs⟩ := ih (by omega)
      have h1 := hel k (by omega)
      rw [List.getElem?_eq_getElem (show k < elems.length by omega)] at h1
      obtain ⟨cs', hcs, htr⟩ := Option.bind_eq_some_iff.1 h1
      obtain ⟨_, hcl, hat⟩ := World.cells?_some hcs
      obtain ⟨p, hK, hp⟩ := h n' (by omega) cs' _ htr (fun m hm => hw m (by
        simp only [DataW.weights, ht, List.mem_cons, List.mem_append]
        exact .inr (.inl (weightsAll_mem (List.mem_map.2 ⟨_, List.getElem_mem _, rfl⟩) m hm))))
      refine ⟨xs ++ [p], by simp [hxl], ?_, ?_⟩
      · intro q hq
        rcases List.mem_append.1 hq with hq | hq
        · exact hok q hq
        · rw [List.mem_singleton.1 hq]
          exact hp
      · intro j q hj
        rcases Nat.lt_or_ge j k with hjk | hjk
        · rw [List.getElem?_append_left (by omega)] at hj
          exact hxs j q hj
        · have hjl : j < (xs ++ [p]).length := (List.getElem?_eq_some_iff.1 hj).1
          have : j = k := by simp at hjl; omega
          subst this
          rw [List.getElem?_append_right (by omega), hxl, Nat.sub_self] at hj
          obtain rfl := Option.some.inj hj
          intro i d hd
          obtain ⟨u, hu, hdr⟩ := hK.2 i d hd
          have hil : i < cs'.length := (List.getElem?_eq_some_iff.1 hu).1
          have h3 := hat i (by omega)
          rw [hsz, Go.Deep.add_add] at h3
          exact ⟨u, by rw [h3, hu], hdr⟩
  obtain ⟨xs, hxl, hok, hxs⟩ := key len (Nat.le_refl _)
  have hlm : len ≤ 9223372036854775807 := by unfold maxLen at hc; omega
  refine ⟨xs, ⟨rfl, fun i d hd => ?_⟩, ?_, by omega, hok⟩
  · cases i with
    | succ i => simp at hd
    | zero =>
      cases hd
      refine ⟨_, rfl, ?_⟩
      cases len with
      | zero =>
        have : xs = [] := List.length_eq_zero_iff.1 hxl
        subst this
        exact .nil _ _
      | succ k =>
        have h00 : ∃ u, W.cell? (a.add 0) = some u ∧ True := by
          obtain ⟨p, hp⟩ : ∃ p, xs[0]? = some p := ⟨xs[0], List.getElem?_eq_getElem (by omega)⟩
          obtain ⟨d, hd⟩ : ∃ d, (rd p)[0]? = some d := ⟨(rd p)[0]'(by rw [hr]; exact hs), List.getElem?_eq_getElem _⟩
          obtain ⟨u, hu, _⟩ := hxs 0 p hp 0 d hd
          exact ⟨u, by simpa using hu, trivial⟩
        obtain ⟨u0, hu0, _⟩ := h00
        have hsp := cell_spot hu0
        have hbk := hF _ _ hu0
        obtain ⟨b, o, sp⟩ := a
        have hsp' : sp = none := by simpa [Addr.add] using hsp
        subst hsp'
        have hbk' : F b := by simpa [Addr.add] using hbk
        have hfill : ∀ (i : Nat) (r : List D) (c : Nat) (y : D), (xs.map rd)[i]? = some r → r[c]? = some y → ∃ u, W.cell? ⟨b, o + (i * s + c), none⟩ = some u ∧ DR W F y u := fun i r c y hi hy => by
          rw [List.getElem?_map, Option.map_eq_some_iff] at hi
          obtain ⟨p, hp, rfl⟩ := hi
          obtain ⟨u, hu, hdr⟩ := hxs i p hp c y hy
          rw [add_off] at hu
          exact ⟨u, hu, hdr⟩
        have e : (xs.map rd).length = k + 1 := by simp [hxl]
        rw [← e]
        refine .fz (xs.map rd) b o cap s (fun i c => (W.cell? ⟨b, o + (i * s + c), none⟩).getD undef) (by simp [hxl]; omega) (fun r hr2 => by
          obtain ⟨p, _, rfl⟩ := List.mem_map.1 hr2; exact hr p) hbk' (fun i r c y hi hy => ?_) (fun i r c y hi hy => ?_)
        · obtain ⟨u, hu, _⟩ := hfill i r c y hi hy
          rw [hu]; rfl
        · obtain ⟨u, hu, hdr⟩ := hfill i r c y hi hy
          rw [hu]; exact hdr
  · have := hw _ (by simp only [DataW.weights, ht]; exact List.mem_cons_self)
    simp only [List.length_map, hlen, hB, reachBytes] at this
    rw [hxl]
    exact Nat.le_trans (Nat.mul_le_mul_right _ (Nat.le_add_right _ _)) this

theorem opDF_nil {o : Nat} : OpDF enc P W F base spare held o [] (fun _ : Unit => []) (fun _ => True) n := by
  intro cs ys _ _ _
  exact ⟨(), 0, ⟨by simp, fun i d hd => by simp at hd⟩, trivial, rfl⟩
theorem opDF_cons {f : Field} {fs : List Field} {o s : Nat} {r1 : α → List D} {r2 : β → List D} {ok1 : α → Prop} {ok2 : β → Prop} (ho : f.offset = o) (hs : P.cellsOf f.type = s) (h : OpD enc P W F base spare held f.type r1 ok1 n)
    (hr : OpDF enc P W F base spare held (o + s) fs r2 ok2 n) : OpDF enc P W F base spare held o (f :: fs) (fun x : α × β => r1 x.1 ++ r2 x.2) (fun x => ok1 x.1 ∧ ok2 x.2) n := by
  intro cs ys hf hl hw
  match ys, hl with
  | y :: ys, hl =>
    have h1 := hf 0 f rfl
    rw [ho, hs] at h1
    obtain ⟨a, ha, hoka⟩ := h _ y h1 (fun m hm => hw m (by simp [DataW.weightsEach, hm]))
    obtain ⟨b, sz, hb, hokb, hsz⟩ := hr cs ys (fun i g hg => by have := hf (i + 1) g (by simpa using hg); simpa using this) (by simpa using hl) (fun m hm => hw m (by
      simp only [List.map_cons, DataW.weightsEach, List.mem_append]
      exact .inr hm))
    refine ⟨(a, b), s + sz, ?_, ⟨hoka, hokb⟩, by simp [hs, hsz]⟩
    have e : (cs.drop o).take (s + sz) = (cs.drop o).take s ++ (cs.drop (o + s)).take sz := by rw [List.take_add, List.drop_drop]
    rw [e]
    exact ha.append hb
theorem opD_struct {fs : Array Field} {rd : α → List D} {ok : α → Prop} {f : β → α} (g : α → β) (ht : P.underlying t = some (.struct fs)) (hC : P.cellsOf t = (fs.toList.map fun f => P.cellsOf f.type).foldr (· + ·) 0) (hg : ∀ a, f (g a) = a)
    (h : ∀ m, m < n → OpDF enc P W F base spare held 0 fs.toList rd ok m) : OpD enc P W F base spare held t (fun b => rd (f b)) (fun b => ok (f b)) n := by
  intro cs x hx hw
  obtain ⟨ys, m, hm, rfl, hcl, hyl, hf⟩ := DataW.trod_struct ht hx
  obtain ⟨a, sz, ha, hok, hsz⟩ := h m (by omega) cs ys (fun i f hi => hf i f (by simpa using hi)) (by simpa using hyl) (fun k hk => hw k (by simpa [DataW.weights, ht] using hk))
  refine ⟨g a, ?_, by show ok (f (g a)); rw [hg]; exact hok⟩
  show RdL W F (rd (f (g a))) cs
  rw [hg]
  rw [List.drop_zero, List.take_of_length_le (by rw [hcl, hC, hsz]; exact Nat.le_refl _)] at ha
  exact ha
theorem opD_fix {rd : α → List D} {ok : α → Prop} (h : ∀ n, (∀ m, m < n → OpD enc P W F base spare held t rd ok m) → OpD enc P W F base spare held t rd ok n) : ∀ n, OpD enc P W F base spare held t rd ok n := by
  intro n
  induction n using Nat.strongRecOn with
  | _ n ih => exact h n ih
theorem opD_imp {rd rd' : α → List D} {ok ok' : α → Prop} (h : OpD enc P W F base spare held t rd ok n) (hK : ∀ a, rd a = rd' a) (hok : ∀ a, ok a → ok' a) : OpD enc P W F base spare held t rd' ok' n := by
  intro cs x hx hw
  obtain ⟨a, h1, h2⟩ := h cs x hx hw
  exact ⟨a, hK a ▸ h1, hok _ h2⟩
theorem openedD {rd : α → List D} {ok : α → Prop} {v : Value} {dt : DataW H} {p : List MemPlace} (h : ∀ n, OpD enc P W F base spare held t rd ok n) (ht : DataW.Trod enc P W base spare held t v dt p) {ts : List TypeId} {ds : List (DataW H)} {j : Nat}
    (hsz : (DataW.weightsEach P ts ds).all (· ≤ reachBytes) = true) (hj : ts[j]? = some t) (hd : ds[j]? = some dt) : ∃ a, RdL W F (rd a) v.cells.toList ∧ ok a := by
  obtain ⟨fuel, hf⟩ := ht
  exact h fuel _ _ hf (fun m hm => by simpa using List.all_eq_true.1 hsz _ (DataW.weights_mem_each hj hd m hm))
end


def cellAt (P : Program) : Nat → TypeId → DataW Unit → Nat → Option Value
  | 0, _, _, _ => none
  | n + 1, t, .lit l, o => if o = 0 then (match P.underlying t, l with
    | some (.int _), .int k m => some (.int k m)
    | some .bool, .bool b => some (.bool b)
    | some .string, .string bs => some (.string ⟨bs.toArray⟩)
    | _, _ => none) else none
  | n + 1, t, .agg ds, o => match P.underlying t with
    | some (.array m e) => if o / P.cellsOf e < m ∧ 0 < P.cellsOf e then (ds[o / P.cellsOf e]?).bind fun d => cellAt P n e d (o % P.cellsOf e) else none
    | some (.struct fs) => (List.range fs.size).findSome? fun i => (fs[i]?).bind fun f => (ds[i]?).bind fun d => if f.offset ≤ o ∧ o - f.offset < P.cellsOf f.type then cellAt P n f.type d (o - f.offset) else none
    | _ => none
  | _, _, _, _ => none
theorem take_drop {α : Type} (cs : List α) (a b i : Nat) (v : α) (h : ((cs.drop a).take b)[i]? = some v) : cs[a + i]? = some v := by
  rw [List.getElem?_take] at h
  split at h
  · rw [List.getElem?_drop] at h
    exact h
  · simp at h
theorem cell_of_trod {P : Program} {w : World} {held : Bool} {spare : Nat → Bool} {base : Nat} : ∀ (m n : Nat) (t : TypeId) (cs : List Value) (d : DataW Unit) (p : List MemPlace) (o : Nat) (v : Value),
    DataW.trod (fun _ => ()) P w base spare held m t cs = some (d, p) → cellAt P n t d o = some v → cs[o]? = some v := by
  intro m n
  induction n generalizing m with
  | zero => intro t cs d p o v _ h; simp [cellAt] at h
  | succ n ih =>
    intro t cs d p o v ht hc
    cases d with
    | lit l =>
      simp only [cellAt] at hc
      split at hc
      · rename_i h0
        subst h0
        split at hc
        · rename_i hu
          obtain ⟨q, rfl, hx, _⟩ := DataW.trod_int hu ht
          simp only [Prod.mk.injEq, DataW.lit.injEq, Lit.int.injEq] at hx
          obtain ⟨⟨rfl, rfl⟩, _⟩ := hx
          simpa using hc
        · rename_i hu
          obtain ⟨q, rfl, hx⟩ := DataW.trod_bool hu ht
          simp only [Prod.mk.injEq, DataW.lit.injEq, Lit.bool.injEq] at hx
          obtain ⟨rfl, _⟩ := hx
          simpa using hc
        · rename_i hu
          obtain ⟨q, rfl, hx, _⟩ := DataW.trod_string hu ht
          simp only [Prod.mk.injEq, DataW.lit.injEq, Lit.string.injEq] at hx
          obtain ⟨rfl, _⟩ := hx
          simpa using hc
        · simp at hc
      · simp at hc
    | agg ds =>
      simp only [cellAt] at hc
      split at hc
      · rename_i k e hu
        split at hc
        · rename_i hk
          obtain ⟨xs, m', rfl, hx, _, hxl, hel⟩ := DataW.trod_array hu ht
          obtain ⟨hd, _⟩ := Prod.mk.inj hx
          obtain rfl := DataW.agg.inj hd
          obtain ⟨d', hd', hc'⟩ := Option.bind_eq_some_iff.1 hc
          rw [List.getElem?_map] at hd'
          obtain ⟨x, hx1, rfl⟩ := Option.map_eq_some_iff.1 hd'
          have h1 := hel (o / P.cellsOf e) hk.1
          rw [hx1] at h1
          have h2 := take_drop _ _ _ _ _ (ih m' e _ x.1 x.2 _ v h1 hc')
          rw [show o / P.cellsOf e * P.cellsOf e + o % P.cellsOf e = o from Nat.div_add_mod' o _] at h2
          exact h2
        · simp at hc
      · rename_i fs hu
        obtain ⟨xs, m', rfl, hx, _, hxl, hel⟩ := DataW.trod_struct hu ht
        obtain ⟨hd, _⟩ := Prod.mk.inj hx
        obtain rfl := DataW.agg.inj hd
        obtain ⟨i, hi, hc1⟩ := List.exists_of_findSome?_eq_some hc
        obtain ⟨f, hf, hc2⟩ := Option.bind_eq_some_iff.1 hc1
        obtain ⟨d', hd', hc'⟩ := Option.bind_eq_some_iff.1 hc2
        split at hc'
        · rename_i hk
          rw [List.getElem?_map] at hd'
          obtain ⟨x, hx1, rfl⟩ := Option.map_eq_some_iff.1 hd'
          have h1 := hel i f hf
          rw [hx1] at h1
          have h2 := take_drop _ _ _ _ _ (ih m' f.type _ x.1 x.2 _ v h1 hc')
          rw [show f.offset + (o - f.offset) = o from by omega] at h2
          exact h2
        · simp at hc'
      · simp at hc
    | _ => simp [cellAt] at hc
theorem of_laidVars {P : Program} {w : World} : ∀ (laid : List (String × DataW Unit)) (ps : List MemPlace), DataW.LaidVars P w laid ps → ∀ (name : String) (d : DataW Unit), (name, d) ∈ laid →
    ∃ g t cs fuel p, P.globalNamed name = some g ∧ (P.globals[g]?).map (·.type) = some t ∧ w.var? P name = some cs ∧ DataW.trod (fun _ => ()) P w 0 (fun _ => true) false fuel t cs.toList = some (d, p)
  | [], _, _, _, _, h => by simp at h
  | (n0, d0) :: r, ps, hl, name, d, h => by
    obtain ⟨g, t, cs, fuel, p, q, h1, h2, h3, h4, h5, _⟩ := hl
    rcases List.mem_cons.1 h with h | h
    · obtain ⟨rfl, rfl⟩ := Prod.mk.inj h
      exact ⟨g, t, cs, fuel, p, h1, h2, h3, h4⟩
    · exact of_laidVars r q h5 name d h
theorem cells_of_laid {P : Program} {W : World} {laid : List (String × DataW Unit)} (hp : (laid.filter fun x => x.2.handleName?.isSome) = []) (h : laidMetH P laid W) {name : String} {d : DataW Unit} (hm : (name, d) ∈ laid)
    {g : Nat} (hg : P.globalNamed name = some g) {t : TypeId} (ht : (P.globals[g]?).map (·.type) = some t) (n : Nat) (vals : List Value) (hc : (List.range vals.length).map (cellAt P n t d) = vals.map some) : ∀ (o : Nat) v, vals[o]? = some v → W.cell? ⟨g, o, none⟩ = some v := by
  intro o v hv
  have hlt := (List.getElem?_eq_some_iff.1 hv).1
  have hco : cellAt P n t d o = some v := by
    have h1 : ((List.range vals.length).map (cellAt P n t d))[o]? = some (cellAt P n t d o) := by simp [hlt]
    rw [hc, List.getElem?_map, hv] at h1
    simpa using h1.symm
  unfold laidMetH at h
  rw [hp] at h
  obtain ⟨ps, hl, _⟩ := h
  obtain ⟨g', t', cs, fuel, p, h1, h2, h3, h4⟩ := of_laidVars laid ps hl name d hm
  obtain rfl := Option.some.inj (hg.symm.trans h1)
  obtain rfl := Option.some.inj (ht.symm.trans h2)
  rw [World.var?_cell hg h3 o]
  have := cell_of_trod fuel n t _ d p o v h4 hco
  simpa using this

def B0 (W : World) : Base := { x := { w := W, F := fun k => k < W.heap.size, μ := fun _ => none, N := fun _ => none, L := 0 }, A := fun _ => False }
theorem cell_lt {W : World} {a : Addr} {u : Value} (h : W.cell? a = some u) : a.block < W.heap.size := by
  unfold World.cell? at h
  split at h
  · rename_i hb; exact (Array.getElem?_eq_some_iff.1 hb).1
  · cases h
theorem vr_pf {W : World} {g : Nat} {cells : List D} {vals : List Value} (hc : cells = vals.map .sc) (h1 : allOne vals = true) (h : ∀ (o : Nat) v, vals[o]? = some v → W.cell? ⟨g, o, none⟩ = some v) : VR (B0 W).x (.pf cells 0) (.pointer (some ⟨g, 0, none⟩)) := by
  subst hc
  refine .pf _ 0 g 0 (fun hne => ?_) (fun k d hd => ?_)
  · obtain ⟨v, hv⟩ : ∃ v, vals[0]? = some v := by
      cases vals with
      | nil => simp at hne
      | cons v l => exact ⟨v, rfl⟩
    exact cell_lt (h 0 v hv)
  · rw [List.getElem?_map, Option.map_eq_some_iff] at hd
    obtain ⟨v, hv, rfl⟩ := hd
    exact ⟨v, by show W.cell? _ = _; simpa using h k v hv, .sc v (allOne_mem h1 v (List.mem_of_getElem? hv))⟩
theorem vr_pa {W : World} {g s : Nat} {rows : List (List D)} {vals : List Value} (hs : ∀ r ∈ rows, r.length = s) (hc : rows.flatten = vals.map .sc) (h1 : allOne vals = true) (h0 : 0 < s) (h : ∀ (o : Nat) v, vals[o]? = some v → W.cell? ⟨g, o, none⟩ = some v) : VR (B0 W).x (.pa rows) (.pointer (some ⟨g, 0, none⟩)) := by
  have hcell : ∀ (i : Nat) (r : List D) (c : Nat) (d : D), rows[i]? = some r → r[c]? = some d → ∃ u, W.cell? ⟨g, 0 + (i * s + c), none⟩ = some u ∧ DR W (B0 W).x.F d u := fun i r c d hi hd => by
    have hcl : c < s := by rw [← hs r (List.mem_of_getElem? hi)]; exact (List.getElem?_eq_some_iff.1 hd).1
    have hf := flat_get hs i c r hi hcl
    rw [hd, hc, List.getElem?_map, Option.map_eq_some_iff] at hf
    obtain ⟨v, hv, rfl⟩ := hf
    exact ⟨v, by rw [Nat.zero_add]; exact h _ v hv, .sc v (allOne_mem h1 v (List.mem_of_getElem? hv))⟩
  refine .pa rows g 0 s (fun hne => ?_) hs hcell
  cases rows with
  | nil => simp at hne
  | cons r l =>
    have hr := hs r (by simp)
    obtain ⟨u, hu, _⟩ := hcell 0 r 0 (r[0]'(by omega)) rfl (List.getElem?_eq_getElem _)
    exact cell_lt hu

theorem rd_agg {W : World} {ds : List D} {cs : Array Value} (h : RdL W (B0 W).x.F ds cs.toList) : VA (B0 W).x (.agg (ds.map .d)) (.agg cs) := by
  refine .agg _ _ ⟨by rw [List.length_map, ← h.1, Array.length_toList], fun i c hc => ?_⟩
  rw [List.getElem?_map, Option.map_eq_some_iff] at hc
  obtain ⟨d, hd, rfl⟩ := hc
  obtain ⟨u, hu, hr⟩ := h.2 i d hd
  exact ⟨u, by simpa using hu, .d _ _ hr⟩
theorem rd_one {W : World} {d : D} {v : Value} (h : RdL W (B0 W).x.F [d] [v]) : VA (B0 W).x (.c (.d d)) v := by
  obtain ⟨u, hu, hr⟩ := h.2 0 d rfl
  cases hu
  exact .c _ _ (.d _ _ hr)

theorem run_true {E : Env} {f : FuncId} {args : List A} {W : World} {vs : Array Value} (h : AFn E f args [] (.c (.d (.sc (.bool true)))) []) (hB : (B0 W).ok E) (hT : TR (B0 W).x args vs) :
    Calls E.P f vs W fun e w' => e = .returned (.bool true) ∧ Below W.heap.size W w' := by
  have hR : Rel (B0 W) (B0 W).x (fun _ _ => False) [] := ⟨rfl, fun id => by simp [B0, nOf], .refl _, rfl, rfl, rfl, fun _ _ _ => rfl, fun _ _ h => h.elim, fun k hk => ⟨hk, .inl hk⟩, fun _ _ _ h => h.elim, fun _ _ h => h.elim, fun id b hb => by simp at hb⟩
  refine (h.2 (B0 W) vs W hB rfl ⟨(B0 W).x, fun _ _ => False, rfl, hR, hT⟩).mono ?_
  rintro e w' ⟨v, rfl, x, O, rfl, hR', hT'⟩
  obtain ⟨u, hu, hv⟩ := hT'.2 0 _ rfl
  cases hu
  cases hv with | c _ _ hv => cases hv with | d _ _ hv => cases hv with | sc _ _ =>
  exact ⟨rfl, ⟨hR'.os, hR'.tape, hR'.output, hR'.le.size, fun k hk => hR'.keep k hk (fun h => h)⟩⟩
end Go.Eng
namespace Go.Eng
open Go.RowKit
set_option linter.unusedVariables false
set_option linter.unusedSimpArgs false

def gt {α : Type} [Inhabited α] (l : List α) (i : Nat) : α := l.getD i default
theorem gt_cons0 {α : Type} [Inhabited α] (a : α) (l : List α) : gt (a :: l) 0 = a := rfl
theorem gt_mem {α : Type} [Inhabited α] {l : List α} {i : Nat} (h : i < l.length) : gt l i ∈ l := by
  simp [gt, List.getD, h]
theorem drop_gt {α : Type} [Inhabited α] {l : List α} {i : Nat} (h : i < l.length) : l.drop i = gt l i :: l.drop (i + 1) := by
  rw [List.drop_eq_getElem_cons h]; simp [gt, List.getD, h]
theorem rowsAt_map {α : Type} [Inhabited α] (f : α → List D) (l : List α) (i : Nat) (h : i < l.length) : rowsAt (l.map f) i = f (gt l i) := by
  simp [rowsAt, gt, List.getD, h]

theorem zS {P Q : Prop} (h : Q) (e : P = Q := by (simp (maxSteps := 500000) (disch := omega) only [go_sem, Bool.not_not, List.mem_singleton, forall_eq, ↓reduceIte, if_pos, rowsAt_map, wrap64, wrapu8, List.getElem?_cons_zero, List.getElem?_cons_succ, Int.reduceToNat, Nat.reduceAdd, Nat.reduceBEq, Bool.or_false, Bool.false_or, Bool.true_or, Nat.reduceSub, Nat.reduceMul, Int.reduceAdd, Int.reduceEq, Int.reduceLT, Int.reduceLE, Int.reduceNeg, Nat.reduceLT, Nat.reduceLeDiff, Nat.reduceEqDiff]; try exact rfl)) : P := e.mpr h
theorem zH {A P Q : Prop} (a : A) (h : Q) (e : A → P = Q := by (intro hb2; simp (maxSteps := 500000) (disch := omega) only [go_sem, Bool.not_not, List.mem_singleton, forall_eq, ↓reduceIte, if_pos, rowsAt_map, wrap64, wrapu8, List.getElem?_cons_zero, List.getElem?_cons_succ, Int.reduceToNat, Nat.reduceAdd, Nat.reduceBEq, Bool.or_false, Bool.false_or, Bool.true_or, Nat.reduceSub, Nat.reduceMul, Int.reduceAdd, Int.reduceEq, Int.reduceLT, Int.reduceLE, Int.reduceNeg, Nat.reduceLT, Nat.reduceLeDiff, Nat.reduceEqDiff, hb2]; try exact rfl)) : P := (e a).mpr h
theorem zT {P Q : Prop} (h : Q) (e : P = Q := by (simp only [go_sem, Bool.not_not, List.mem_singleton, forall_eq, ↓reduceIte, if_pos, rowsAt_map, wrap64, wrapu8, List.getElem?_cons_zero, List.getElem?_cons_succ, Int.reduceToNat, Nat.reduceAdd, Nat.reduceBEq, Bool.or_false, Bool.false_or, Bool.true_or, Nat.reduceSub, Nat.reduceMul, Int.reduceAdd, Int.reduceEq, Int.reduceLT, Int.reduceLE, Int.reduceNeg, Nat.reduceLT, Nat.reduceLeDiff, Nat.reduceEqDiff]; try exact rfl)) : P := e.mpr h
theorem zC {P : Prop} (h : P := by (simp only [go_sem, Bool.not_not, List.mem_singleton, forall_eq, ↓reduceIte, if_pos, rowsAt_map, wrap64, wrapu8, List.getElem?_cons_zero, List.getElem?_cons_succ, Int.reduceToNat, Nat.reduceAdd, Nat.reduceBEq, Bool.or_false, Bool.false_or, Bool.true_or, Nat.reduceSub, Nat.reduceMul, Int.reduceAdd, Int.reduceEq, Int.reduceLT, Int.reduceLE, Int.reduceNeg, Nat.reduceLT, Nat.reduceLeDiff, Nat.reduceEqDiff]; try simp)) : P := h
theorem zD {P : Prop} (h : P := by (simp only [go_sem, Bool.not_not, List.mem_singleton, forall_eq, ↓reduceIte, if_pos, rowsAt_map, wrap64, wrapu8, List.getElem?_cons_zero, List.getElem?_cons_succ, Int.reduceToNat, Nat.reduceAdd, Nat.reduceBEq, Bool.or_false, Bool.false_or, Bool.true_or, Nat.reduceSub, Nat.reduceMul, Int.reduceAdd, Int.reduceEq, Int.reduceLT, Int.reduceLE, Int.reduceNeg, Nat.reduceLT, Nat.reduceLeDiff, Nat.reduceEqDiff]; done)) : P := h
theorem zF {P : Prop} (h : P := by (simp only [go_sem, Bool.not_not, List.mem_singleton, forall_eq, ↓reduceIte, if_pos, rowsAt_map, wrap64, wrapu8, List.getElem?_cons_zero, List.getElem?_cons_succ, Int.reduceToNat, Nat.reduceAdd, Nat.reduceBEq, Bool.or_false, Bool.false_or, Bool.true_or, Nat.reduceSub, Nat.reduceMul, Int.reduceAdd, Int.reduceEq, Int.reduceLT, Int.reduceLE, Int.reduceNeg, Nat.reduceLT, Nat.reduceLeDiff, Nat.reduceEqDiff]; first | done | rfl | fail)) : P := h
section
variable {E : Env} {T : List A} {H : Heap} {Q : Exit → List A → Heap → Prop} {m : Nat} {c : Operand} {x y : Code}
theorem zcdT (h1 : AWP E x T H Q m) (hc : ofBool (ev E T c) = some true := by (simp (maxSteps := 500000) (disch := omega) only [go_sem, Bool.not_not, List.mem_singleton, forall_eq, ↓reduceIte, if_pos, rowsAt_map, wrap64, wrapu8, List.getElem?_cons_zero, List.getElem?_cons_succ, Int.reduceToNat, Nat.reduceAdd, Nat.reduceBEq, Bool.or_false, Bool.false_or, Bool.true_or, Nat.reduceSub, Nat.reduceMul, Int.reduceAdd, Int.reduceEq, Int.reduceLT, Int.reduceLE, Int.reduceNeg, Nat.reduceLT, Nat.reduceLeDiff, Nat.reduceEqDiff]; first | done | fail)) : AWP E (.cond c x y) T H Q m := awp_cond_t hc h1
theorem zcdF (h1 : AWP E y T H Q m) (hc : ofBool (ev E T c) = some false := by (simp (maxSteps := 500000) (disch := omega) only [go_sem, Bool.not_not, List.mem_singleton, forall_eq, ↓reduceIte, if_pos, rowsAt_map, wrap64, wrapu8, List.getElem?_cons_zero, List.getElem?_cons_succ, Int.reduceToNat, Nat.reduceAdd, Nat.reduceBEq, Bool.or_false, Bool.false_or, Bool.true_or, Nat.reduceSub, Nat.reduceMul, Int.reduceAdd, Int.reduceEq, Int.reduceLT, Int.reduceLE, Int.reduceNeg, Nat.reduceLT, Nat.reduceLeDiff, Nat.reduceEqDiff]; first | done | fail)) : AWP E (.cond c x y) T H Q m := awp_cond_f hc h1
theorem zcdD {p : Prop} {inst : Decidable p} (h1 : p → @decide p inst = true → AWP E x T H Q m) (h2 : ¬ p → @decide p inst = false → AWP E y T H Q m) (hc : ofBool (ev E T c) = some (decide p) := by (simp (maxSteps := 500000) (disch := omega) only [go_sem, Bool.not_not, List.mem_singleton, forall_eq, ↓reduceIte, if_pos, rowsAt_map, wrap64, wrapu8, List.getElem?_cons_zero, List.getElem?_cons_succ, Int.reduceToNat, Nat.reduceAdd, Nat.reduceBEq, Bool.or_false, Bool.false_or, Bool.true_or, Nat.reduceSub, Nat.reduceMul, Int.reduceAdd, Int.reduceEq, Int.reduceLT, Int.reduceLE, Int.reduceNeg, Nat.reduceLT, Nat.reduceLeDiff, Nat.reduceEqDiff]; first | done | rfl | fail)) : AWP E (.cond c x y) T H Q m := cond_d hc h1 h2
theorem zcdN {p : Prop} {inst : Decidable p} (h1 : ¬ p → @decide p inst = false → AWP E x T H Q m) (h2 : p → @decide p inst = true → AWP E y T H Q m) (hc : ofBool (ev E T c) = some (!decide p) := by (simp (maxSteps := 500000) (disch := omega) only [go_sem, Bool.not_not, List.mem_singleton, forall_eq, ↓reduceIte, if_pos, rowsAt_map, wrap64, wrapu8, List.getElem?_cons_zero, List.getElem?_cons_succ, Int.reduceToNat, Nat.reduceAdd, Nat.reduceBEq, Bool.or_false, Bool.false_or, Bool.true_or, Nat.reduceSub, Nat.reduceMul, Int.reduceAdd, Int.reduceEq, Int.reduceLT, Int.reduceLE, Int.reduceNeg, Nat.reduceLT, Nat.reduceLeDiff, Nat.reduceEqDiff]; first | done | rfl | fail)) : AWP E (.cond c x y) T H Q m := cond_nd hc h1 h2
theorem zcdM {b : Bool} (h1 : b = false → AWP E x T H Q m) (h2 : b = true → AWP E y T H Q m) (hc : ofBool (ev E T c) = some (!b) := by (simp (maxSteps := 500000) (disch := omega) only [go_sem, Bool.not_not, List.mem_singleton, forall_eq, ↓reduceIte, if_pos, rowsAt_map, wrap64, wrapu8, List.getElem?_cons_zero, List.getElem?_cons_succ, Int.reduceToNat, Nat.reduceAdd, Nat.reduceBEq, Bool.or_false, Bool.false_or, Bool.true_or, Nat.reduceSub, Nat.reduceMul, Int.reduceAdd, Int.reduceEq, Int.reduceLT, Int.reduceLE, Int.reduceNeg, Nat.reduceLT, Nat.reduceLeDiff, Nat.reduceEqDiff]; first | done | rfl | fail)) : AWP E (.cond c x y) T H Q m := cond_nb hc h1 h2
theorem zcdB {b : Bool} (h1 : b = true → AWP E x T H Q m) (h2 : b = false → AWP E y T H Q m) (hc : ofBool (ev E T c) = some b := by (simp (maxSteps := 500000) (disch := omega) only [go_sem, Bool.not_not, List.mem_singleton, forall_eq, ↓reduceIte, if_pos, rowsAt_map, wrap64, wrapu8, List.getElem?_cons_zero, List.getElem?_cons_succ, Int.reduceToNat, Nat.reduceAdd, Nat.reduceBEq, Bool.or_false, Bool.false_or, Bool.true_or, Nat.reduceSub, Nat.reduceMul, Int.reduceAdd, Int.reduceEq, Int.reduceLT, Int.reduceLE, Int.reduceNeg, Nat.reduceLT, Nat.reduceLeDiff, Nat.reduceEqDiff]; first | done | rfl | fail)) : AWP E (.cond c x y) T H Q m := awp_cond hc h1 h2
end
section
variable {E : Env} {T : List A} {H H1 : Heap} {o : Oper} {K : A → Heap → Prop} {f : FuncId} {args al : List A} {Hl hd : Heap} {fo : Operand} {as : Array Operand} {caps : List C} {na b : Bool}
theorem zcF (h : ∃ rl, AFn E f al [] rl [] ∧ (∀ g, renA g rl = rl) ∧ (∀ g, renAs g al = al) ∧ okAs 0 al = true ∧ K rl H1) (ho : opIs o fo as := by exact ⟨_, rfl⟩) (hfo : ev E T fo = .c (.clo (.func f) []) := by rfl)
    (hz : frAs 0 H (as.toList.map (ev E T)) = some (al, H1) := by (simp (maxSteps := 500000) (disch := omega) only [go_sem, Bool.not_not, List.mem_singleton, forall_eq, ↓reduceIte, if_pos, rowsAt_map, wrap64, wrapu8, List.getElem?_cons_zero, List.getElem?_cons_succ, Int.reduceToNat, Nat.reduceAdd, Nat.reduceBEq, Bool.or_false, Bool.false_or, Bool.true_or, Nat.reduceSub, Nat.reduceMul, Int.reduceAdd, Int.reduceEq, Int.reduceLT, Int.reduceLE, Int.reduceNeg, Nat.reduceLT, Nat.reduceLeDiff, Nat.reduceEqDiff]; first | done | rfl | fail)) : CallK E T H o K := callF ho hfo hz h
theorem zcT (sel : List Nat) (h : ∃ rl Hl', AFn E f al Hl rl Hl' ∧ K (renA (gl sel H.length) rl) (mrg (gl sel H.length) sel Hl' H)) (ho : opIs o fo as := by exact ⟨_, rfl⟩) (hfo : ev E T fo = .c (.clo (.func f) caps) := by rfl)
    (hargs : as.toList.map (ev E T) ++ caps.map .c = args := by (simp (maxSteps := 500000) (disch := omega) only [go_sem, Bool.not_not, List.mem_singleton, forall_eq, ↓reduceIte, if_pos, rowsAt_map, wrap64, wrapu8, List.getElem?_cons_zero, List.getElem?_cons_succ, Int.reduceToNat, Nat.reduceAdd, Nat.reduceBEq, Bool.or_false, Bool.false_or, Bool.true_or, Nat.reduceSub, Nat.reduceMul, Int.reduceAdd, Int.reduceEq, Int.reduceLT, Int.reduceLE, Int.reduceNeg, Nat.reduceLT, Nat.reduceLeDiff, Nat.reduceEqDiff]; first | done | rfl | fail)) (hl : invAs sel args = some al := by (simp (maxSteps := 500000) (disch := omega) only [go_sem, Bool.not_not, List.mem_singleton, forall_eq, ↓reduceIte, if_pos, rowsAt_map, wrap64, wrapu8, List.getElem?_cons_zero, List.getElem?_cons_succ, Int.reduceToNat, Nat.reduceAdd, Nat.reduceBEq, Bool.or_false, Bool.false_or, Bool.true_or, Nat.reduceSub, Nat.reduceMul, Int.reduceAdd, Int.reduceEq, Int.reduceLT, Int.reduceLE, Int.reduceNeg, Nat.reduceLT, Nat.reduceLeDiff, Nat.reduceEqDiff]; first | done | rfl | fail)) (hh : invH sel H sel = some Hl := by (simp (maxSteps := 500000) (disch := omega) only [go_sem, Bool.not_not, List.mem_singleton, forall_eq, ↓reduceIte, if_pos, rowsAt_map, wrap64, wrapu8, List.getElem?_cons_zero, List.getElem?_cons_succ, Int.reduceToNat, Nat.reduceAdd, Nat.reduceBEq, Bool.or_false, Bool.false_or, Bool.true_or, Nat.reduceSub, Nat.reduceMul, Int.reduceAdd, Int.reduceEq, Int.reduceLT, Int.reduceLE, Int.reduceNeg, Nat.reduceLT, Nat.reduceLeDiff, Nat.reduceEqDiff]; first | done | rfl | fail)) (hc : chk sel H.length = true := by rfl) : CallK E T H o K := callT sel ho hfo hargs hl hh hc h
theorem zdP (h : ∃ rl, AFn E f al [] rl [] ∧ (∀ g, renA g rl = rl) ∧ (∀ g, renAs g al = al) ∧ okAs 0 al = true ∧ (b = true → na = false ∧ visA hd rl = true) ∧ K rl H) (ho : opIs o fo as := by exact ⟨_, rfl⟩) (hfo : ev E T fo = .c (.clo (.func f) []) := by rfl)
    (hargs : as.toList.map (ev E T) = al := by (simp (maxSteps := 500000) (disch := omega) only [go_sem, Bool.not_not, List.mem_singleton, forall_eq, ↓reduceIte, if_pos, rowsAt_map, wrap64, wrapu8, List.getElem?_cons_zero, List.getElem?_cons_succ, Int.reduceToNat, Nat.reduceAdd, Nat.reduceBEq, Bool.or_false, Bool.false_or, Bool.true_or, Nat.reduceSub, Nat.reduceMul, Int.reduceAdd, Int.reduceEq, Int.reduceLT, Int.reduceLE, Int.reduceNeg, Nat.reduceLT, Nat.reduceLeDiff, Nat.reduceEqDiff]; first | done | rfl | fail)) : DStep E na hd false b T H o K := dcallP ho hfo hargs h
theorem zdW (h : ∃ rl, AFn E f al [] rl [] ∧ (∀ g, renA g rl = rl) ∧ (∀ g, renAs g al = al) ∧ okAs 0 al = true ∧ K rl H) (ho : opIs o fo as := by exact ⟨_, rfl⟩) (hfo : ev E T fo = .c (.clo (.func f) []) := by rfl)
    (hargs : as.toList.map (ev E T) = al := by (simp (maxSteps := 500000) (disch := omega) only [go_sem, Bool.not_not, List.mem_singleton, forall_eq, ↓reduceIte, if_pos, rowsAt_map, wrap64, wrapu8, List.getElem?_cons_zero, List.getElem?_cons_succ, Int.reduceToNat, Nat.reduceAdd, Nat.reduceBEq, Bool.or_false, Bool.false_or, Bool.true_or, Nat.reduceSub, Nat.reduceMul, Int.reduceAdd, Int.reduceEq, Int.reduceLT, Int.reduceLE, Int.reduceNeg, Nat.reduceLT, Nat.reduceLeDiff, Nat.reduceEqDiff]; first | done | rfl | fail)) : DStep E true hd true b T H o K := dcallPw ho hfo hargs h
theorem zdT (sel : List Nat) (h : ∃ rl Hl', AFn E f al Hl rl Hl' ∧ K (renA (gl sel H.length) rl) (mrg (gl sel H.length) sel Hl' H)) (ho : opIs o fo as := by exact ⟨_, rfl⟩) (hfo : ev E T fo = .c (.clo (.func f) caps) := by rfl)
    (hargs : as.toList.map (ev E T) ++ caps.map .c = args := by (simp (maxSteps := 500000) (disch := omega) only [go_sem, Bool.not_not, List.mem_singleton, forall_eq, ↓reduceIte, if_pos, rowsAt_map, wrap64, wrapu8, List.getElem?_cons_zero, List.getElem?_cons_succ, Int.reduceToNat, Nat.reduceAdd, Nat.reduceBEq, Bool.or_false, Bool.false_or, Bool.true_or, Nat.reduceSub, Nat.reduceMul, Int.reduceAdd, Int.reduceEq, Int.reduceLT, Int.reduceLE, Int.reduceNeg, Nat.reduceLT, Nat.reduceLeDiff, Nat.reduceEqDiff]; first | done | rfl | fail)) (hl : invAs sel args = some al := by (simp (maxSteps := 500000) (disch := omega) only [go_sem, Bool.not_not, List.mem_singleton, forall_eq, ↓reduceIte, if_pos, rowsAt_map, wrap64, wrapu8, List.getElem?_cons_zero, List.getElem?_cons_succ, Int.reduceToNat, Nat.reduceAdd, Nat.reduceBEq, Bool.or_false, Bool.false_or, Bool.true_or, Nat.reduceSub, Nat.reduceMul, Int.reduceAdd, Int.reduceEq, Int.reduceLT, Int.reduceLE, Int.reduceNeg, Nat.reduceLT, Nat.reduceLeDiff, Nat.reduceEqDiff]; first | done | rfl | fail)) (hh : invH sel H sel = some Hl := by (simp (maxSteps := 500000) (disch := omega) only [go_sem, Bool.not_not, List.mem_singleton, forall_eq, ↓reduceIte, if_pos, rowsAt_map, wrap64, wrapu8, List.getElem?_cons_zero, List.getElem?_cons_succ, Int.reduceToNat, Nat.reduceAdd, Nat.reduceBEq, Bool.or_false, Bool.false_or, Bool.true_or, Nat.reduceSub, Nat.reduceMul, Int.reduceAdd, Int.reduceEq, Int.reduceLT, Int.reduceLE, Int.reduceNeg, Nat.reduceLT, Nat.reduceLeDiff, Nat.reduceEqDiff]; first | done | rfl | fail)) (hc : chk sel H.length = true := by rfl) : DStep E true hd true b T H o K := dcallT sel ho hfo hargs hl hh hc h
end
theorem zwl {m : Nat} {T T' : List A} {H H' : Heap} (h1 : LeT T T' := by (simp only [go_sem, Bool.not_not, List.mem_singleton, forall_eq, ↓reduceIte, if_pos, rowsAt_map, wrap64, wrapu8, List.getElem?_cons_zero, List.getElem?_cons_succ, Int.reduceToNat, Nat.reduceAdd, Nat.reduceBEq, Bool.or_false, Bool.false_or, Bool.true_or, Nat.reduceSub, Nat.reduceMul, Int.reduceAdd, Int.reduceEq, Int.reduceLT, Int.reduceLE, Int.reduceNeg, Nat.reduceLT, Nat.reduceLeDiff, Nat.reduceEqDiff]; try simp)) (h2 : LeH H H' := by (simp only [go_sem, Bool.not_not, List.mem_singleton, forall_eq, ↓reduceIte, if_pos, rowsAt_map, wrap64, wrapu8, List.getElem?_cons_zero, List.getElem?_cons_succ, Int.reduceToNat, Nat.reduceAdd, Nat.reduceBEq, Bool.or_false, Bool.false_or, Bool.true_or, Nat.reduceSub, Nat.reduceMul, Int.reduceAdd, Int.reduceEq, Int.reduceLT, Int.reduceLE, Int.reduceNeg, Nat.reduceLT, Nat.reduceLeDiff, Nat.reduceEqDiff]; try simp)) : Wk m T H T' H' := wk_le h1 h2
theorem zwc {m : Nat} {T T' : List A} {H H' : Heap} (k : Nat) (h1 : LeT (cutT k T) T' := by (simp only [go_sem, Bool.not_not, List.mem_singleton, forall_eq, ↓reduceIte, if_pos, rowsAt_map, wrap64, wrapu8, List.getElem?_cons_zero, List.getElem?_cons_succ, Int.reduceToNat, Nat.reduceAdd, Nat.reduceBEq, Bool.or_false, Bool.false_or, Bool.true_or, Nat.reduceSub, Nat.reduceMul, Int.reduceAdd, Int.reduceEq, Int.reduceLT, Int.reduceLE, Int.reduceNeg, Nat.reduceLT, Nat.reduceLeDiff, Nat.reduceEqDiff]; try simp)) (h2 : LeH (cutH k k H) H' := by (simp only [go_sem, Bool.not_not, List.mem_singleton, forall_eq, ↓reduceIte, if_pos, rowsAt_map, wrap64, wrapu8, List.getElem?_cons_zero, List.getElem?_cons_succ, Int.reduceToNat, Nat.reduceAdd, Nat.reduceBEq, Bool.or_false, Bool.false_or, Bool.true_or, Nat.reduceSub, Nat.reduceMul, Int.reduceAdd, Int.reduceEq, Int.reduceLT, Int.reduceLE, Int.reduceNeg, Nat.reduceLT, Nat.reduceLeDiff, Nat.reduceEqDiff]; try simp)) (hmk : m ≤ k := by decide) (hk : k ≤ H.length := by simp) : Wk m T H T' H' := wk_cl k hmk hk h1 h2
end Go.Eng
namespace Go.Eng
open Go.RowKit
set_option linter.unusedVariables false
set_option linter.unusedSimpArgs false

theorem afn_virt {E : Env} {f : FuncId} {s : Nat} {rty : Option TypeId} {args : List A} {rl r0 : A} {Hl' H1 : Heap} (hs : 0 < s) (hf : AFn E f (.c (.own 0 0 0 0) :: args) [some (.rows s [] rty)] rl Hl')
    (hA : renAs (gl [0] 1) args = args) (hok : okAs 1 args = true) (h1 : frA 0 (mrg (gl [0] 1) [0] Hl' [some (.rows s [] rty)]) (renA (gl [0] 1) rl) = some (r0, H1)) (h2 : okR 0 r0 = true) : AFn E f (.c .nils :: args) [] r0 [] := by
  refine ⟨hf.1, fun B vs w hB hL hsr => ?_⟩
  obtain ⟨x, O, rfl, hR, hT⟩ := hsr
  obtain ⟨z, O', e1, l1, f1, m1, L1, R1⟩ := hR.new (.rows s [] rty) x.w none (fun _ => False) rfl rfl rfl (Nat.le_refl _) (fun _ _ => rfl) (fun k hk => hk.elim)
    (fun y hw hle hF hμ => ⟨hs, by simp, .inl ⟨hμ, rfl⟩⟩)
  have hT' : TR z (renAs (gl [0] 1) (.c (.own 0 0 0 0) :: args)) vs := by
    have : renAs (gl [0] 1) (.c (.own 0 0 0 0) :: args) = .c (.own 0 0 0 0) :: args := by
      show _ :: renAs (gl [0] 1) args = _
      rw [hA]; rfl
    rw [this]
    refine ⟨by rw [hT.1]; rfl, fun i b hb => ?_⟩
    cases i with
    | zero =>
      cases hb
      obtain ⟨u, hu, hv⟩ := hT.2 0 _ rfl
      cases hv with | c _ _ hv => cases hv with | nils =>
      refine ⟨_, hu, .c _ _ (.own _ _ _ _ _ ⟨rfl, by rw [L1]; simp, fun s' m' hN => ?_⟩)⟩
      have : z.N 0 = some (s, 0) := by rw [R1.hN]; exact nOf_some (b := .rows s [] rty) (by simp)
      rw [this] at hN
      cases hN
      exact ⟨Nat.le_refl _, fun _ => by rw [show z.μ 0 = none from m1]; simp⟩
    | succ i =>
      obtain ⟨u, hu, hv⟩ := hT.2 (i + 1) b hb
      exact ⟨u, hu, hv.mono l1⟩
  have hc := call_ok (args := id) (r := id) (sel := [0]) hf hB R1 (by simp) (by simp) rfl (fun k b hb => by
    cases k with
    | zero => cases hb; rfl
    | succ k => simp at hb) (by show (okA 1 (.c (.own 0 0 0 0)) && okAs 1 args) = true; rw [hok]; rfl) (by rfl) hT'
  rw [e1] at hc
  refine hc.mono ?_
  rintro e w' ⟨v, rfl, y, O2, rfl, l2, R2, V2⟩
  refine ⟨v, rfl, ?_⟩
  have hsr : SRel B [renA (gl [0] 1) rl] (mrg (gl [0] 1) [0] Hl' [some (.rows s [] rty)]) #[v] y.w := ⟨y, O2, rfl, R2, rfl, fun i b hb => by
    cases i with
    | zero => cases hb; exact ⟨v, rfl, V2⟩
    | succ i => simp at hb⟩
  have hw := fin_wk h1 h2 (Nat.zero_le _) B ⟨#[v], []⟩ y.w hL ⟨rfl, hsr⟩
  obtain ⟨_, x', O', h1, h2, h3⟩ := hw
  exact ⟨x', O', h1, h2, h3⟩

theorem awp_seqQ {E : Env} {x y : Code} {T : List A} {H : Heap} {Q : Exit → List A → Heap → Prop} {m : Nat} (h : ∀ Q', Q' = Q → AWP E x T H (Sq (fun T' H' => AWP E y T' H' Q' m) Q') m) : AWP E (.seq x y) T H Q m := awp_seq (h Q rfl)
theorem q_step {Q Q' : Exit → List A → Heap → Prop} {e : Exit} {T : List A} {H : Heap} (h : Q' = Q) (g : Q e T H) : Q' e T H := by rw [h]; exact g
end Go.Eng
namespace Go.Eng
open Go.RowKit
set_option linter.unusedVariables false
set_option linter.unusedSimpArgs false

theorem least {p : Nat → Prop} (h : ∃ n, p n) : ∃ n, p n ∧ ∀ m, p m → n ≤ m := by
  obtain ⟨n, hn⟩ := h
  induction n using Nat.strongRecOn with
  | _ n ih =>
    by_cases h : ∃ m, m < n ∧ p m
    · obtain ⟨m, hm, hp⟩ := h; exact ih m hm hp
    · exact ⟨n, hn, fun m hm => by rcases Nat.lt_or_ge m n with h' | h'; exact absurd ⟨m, h', hm⟩ h; exact h'⟩

section
variable {E : Env} {T : List A} {H : Heap} {Q : Exit → List A → Heap → Prop} {m : Nat}

theorem awp_label {l : Nat} (h : Q .normal T H) : AWP E (.label l) T H Q m := fun B a w hB hm hs => wp_label ⟨T, H, h, hs⟩
theorem awp_goto {l : Nat} (h : Q (.goto l) T H) : AWP E (.goto l) T H Q m := fun B a w hB hm hs => wp_goto ⟨T, H, h, hs⟩

def NoG (Q : Exit → List A → Heap → Prop) : Exit → List A → Heap → Prop
  | .goto _, _, _ => False
  | e, T, H => Q e T H

theorem awp_scope0 {c : Code} (h : AWP E c T H (NoG Q) m) : AWP E (.scope c) T H Q m := by
  intro B a w hB hm hs
  refine wp_scope_straight (wp_mono (h B a w hB hm hs) ?_)
  rintro e a' w' ⟨T', H', hq, hs'⟩
  cases e with
  | goto l => exact hq.elim
  | _ => exact ⟨T', H', hq, hs'⟩

def Jm (l : Nat) (J : List A → Heap → Prop) (Q : Exit → List A → Heap → Prop) : Exit → List A → Heap → Prop
  | .goto l', T, H => l' = l ∧ J T H
  | e, T, H => Q e T H

theorem awp_scopeJ {α : Type} {c rest : Code} (l : Nat) (I : α → Prop) (S : α → List A × Heap) (μ : α → Nat) (hf : findLabel c l = some rest)
    (first : AWP E c T H (Jm l (fun T' H' => ∃ j, I j ∧ Wk m T' H' (S j).1 (S j).2) Q) m)
    (pass : ∀ i, I i → AWP E rest (S i).1 (S i).2 (Jm l (fun T' H' => ∃ j, I j ∧ μ j < μ i ∧ Wk m T' H' (S j).1 (S j).2) Q) m) : AWP E (.scope c) T H Q m := by
  intro B a w hB hm hs
  classical
  let J : Nat → Act → World → Prop := fun n a w => ∃ i, μ i = n ∧ I i ∧ SR B (S i).1 (S i).2 a w
  let ν : Act → World → Nat := fun a w => if h : ∃ n, J n a w then Classical.choose (least h) else 0
  have hν : ∀ n a w, J n a w → J (ν a w) a w ∧ ν a w ≤ n := fun n a w h => by
    have hex : ∃ n, J n a w := ⟨n, h⟩
    have e : ν a w = Classical.choose (least hex) := dif_pos hex
    rw [e]
    exact ⟨(Classical.choose_spec (least hex)).1, (Classical.choose_spec (least hex)).2 n h⟩
  refine wp_scope_jumps l (fun a w => ∃ n, J n a w) ν hf ?_ ?_
  · refine wp_mono (first B a w hB hm hs) ?_
    rintro e a' w' ⟨T', H', hq, hs'⟩
    cases e with
    | goto l' =>
      obtain ⟨e, j, hj, hw⟩ := hq
      exact ⟨e, μ j, j, rfl, hj, hw B a' w' hm hs'⟩
    | _ => exact ⟨T', H', hq, hs'⟩
  · rintro a w ⟨n, hJ⟩
    obtain ⟨⟨i, hi, hI, hsi⟩, _⟩ := hν n a w hJ
    refine wp_mono (pass i hI B a w hB hm hsi) ?_
    rintro e a' w' ⟨T', H', hq, hs'⟩
    cases e with
    | goto l' =>
      obtain ⟨e, j, hj, hlt, hw⟩ := hq
      have hJj : J (μ j) a' w' := ⟨j, rfl, hj, hw B a' w' hm hs'⟩
      exact ⟨e, ⟨μ j, hJj⟩, Nat.lt_of_le_of_lt (hν _ a' w' hJj).2 (by rw [← hi]; exact hlt)⟩
    | _ => exact ⟨T', H', hq, hs'⟩
end
attribute [go_sem] NoG Jm
end Go.Eng
namespace Go.Eng
open Go.RowKit
set_option linter.unusedVariables false
set_option linter.unusedSimpArgs false
set_option linter.unnecessarySimpa false

section
variable {E : Env} {ops : Array Oper} {wr am : List Bool} {val : Nat → A} {hpL : Array Bool → Heap} {Ts : Nat → List A}
structure TrL (E : Env) (ops : Array Oper) (val : Nat → A) (hpL : Array Bool → Heap) (Ts : Nat → List A) : Prop where
  noguard : ∀ (i : Nat) o, ops[i]? = some o → o.guard = none
  step : ∀ (i : Nat) o, ops[i]? = some o → Ts (i + 1) = putT (Ts i) o.dst (val i)
  run : ∀ (listed : Array Bool) (i : Nat) o, listed.size = ops.size → ops[i]? = some o → listed.getD i false = false → (∀ j, j ∈ bindsOf o → listed.getD j false = true) → (∀ (i : Nat) o, listed.getD i false = true → ops[i]? = some o → ∀ j, j ∈ bindsOf o → listed.getD j false = true) → OpY E (Ts i) (hpL listed) o (val i) (hpL (listed.setIfInBounds i true))

theorem TrL.length (tr : TrL E ops val hpL Ts) : ∀ i, i ≤ ops.size → (Ts i).length = (Ts 0).length
  | 0, _ => rfl
  | i + 1, h => by
    have ho : ops[i]? = some ops[i] := Array.getElem?_eq_getElem (by omega)
    rw [tr.step i _ ho, putT_length]
    exact TrL.length tr i (by omega)

theorem TrL.slot (hrg : RgOk ops wr am) (tr : TrL E ops val hpL Ts) {t : Nat} (ht : t < (Ts 0).length) : ∀ i, i ≤ ops.size →
    (∀ j o, j < i → ops[j]? = some o → o.dst = some t → gT (Ts i) t = val j) ∧ ((∀ j o, j < i → ops[j]? = some o → o.dst ≠ some t) → gT (Ts i) t = gT (Ts 0) t)
  | 0, _ => ⟨fun j o h => by omega, fun _ => rfl⟩
  | i + 1, h => by
    obtain ⟨h1, h2⟩ := TrL.slot hrg tr ht i (by omega)
    have ho : ops[i]? = some ops[i] := Array.getElem?_eq_getElem (by omega)
    have hlen := tr.length i (by omega)
    rw [tr.step i _ ho]
    refine ⟨fun j o hj hoj hd => ?_, fun hn => ?_⟩
    · rw [get_putT]
      by_cases e : j = i
      · subst e
        rw [ho] at hoj
        cases hoj
        rw [if_pos ⟨hd, by rw [hlen]; exact ht⟩]
      · have hne : (ops[i]).dst ≠ some t := fun hdi => hrg.dist j i o _ (by simpa using hoj) (by simpa using ho) e t hd hdi
        rw [if_neg (fun h => hne h.1)]
        exact h1 j o (by omega) hoj hd
    · rw [get_putT, if_neg (fun h => hn i _ (by omega) ho h.1)]
      exact h2 (fun j o hj hoj => hn j o (by omega) hoj)

theorem TrL.any (hrg : RgOk ops wr am) (tr : TrL E ops val hpL Ts) {Hf : Heap} (hfin : ∀ listed : Array Bool, listed.size = ops.size → (∀ i, i < ops.size → listed.getD i false = true) → hpL listed = Hf) {B : Base} (hB : B.ok E) {Q' : Exit → Act → World → Prop} (hQ : ∀ a w, SR B (Ts ops.size) Hf a w → Q' .normal a w) :
    ∀ (fuel : Nat) (listed : Array Bool) (a : Act) (x : Ctx) (O : Nat → Nat → Prop), listed.size = ops.size → ((List.range ops.size).filter fun i => !listed.getD i true).length = fuel →
      (∀ (i : Nat) o, listed.getD i false = true → ops[i]? = some o → ∀ j, j ∈ bindsOf o → listed.getD j false = true) → Rel B x O (hpL listed) → a.defers = [] → a.tmps.size = (Ts 0).length →
      (∀ (i : Nat) o, listed.getD i false = true → ops[i]? = some o → ∀ t, o.dst = some t → t < (Ts 0).length → VA x (val i) (a.tmps.getD t undef)) →
      (∀ t, t < (Ts 0).length → (∀ (i : Nat) o, listed.getD i false = true → ops[i]? = some o → o.dst ≠ some t) → VA x (gT (Ts 0) t) (a.tmps.getD t undef)) →
      wpAny E.P .any ops Q' fuel listed a x.w := by
  intro fuel
  induction fuel with
  | zero =>
    intro listed a x O hsz hcount hcl hR hd hts h1 h2
    have hall : ∀ i, i < ops.size → listed.getD i false = true := fun i hi => by
      have hnil := List.length_eq_zero_iff.1 hcount
      have : i ∉ (List.range ops.size).filter fun i => !listed.getD i true := by rw [hnil]; simp
      simp only [List.mem_filter, List.mem_range, hi, true_and, Bool.not_eq_true', Bool.not_eq_false] at this
      have hlt : i < listed.size := by omega
      simpa [hlt] using this
    refine ⟨?_, ?_⟩
    · unfold Region.ready
      rw [List.filter_eq_nil_iff]
      intro i hi
      rw [List.mem_range] at hi
      have := hall i hi
      have hlt : i < listed.size := by omega
      simp [hlt] at this ⊢
      intro h
      rw [this] at h; cases h
    · have hq' := hfin listed hsz hall
      refine hQ a x.w ⟨hd, x, O, rfl, by rw [← hq']; exact hR, by rw [tr.length _ (Nat.le_refl _)]; exact hts, fun t b hb => ?_⟩
      have ht : t < (Ts 0).length := by rw [← tr.length _ (Nat.le_refl _)]; exact (List.getElem?_eq_some_iff.1 hb).1
      have htt : t < a.tmps.size := by omega
      refine ⟨a.tmps.getD t undef, by simp [htt], ?_⟩
      have hgt : gT (Ts ops.size) t = b := by rw [gT_eq, hb]; rfl
      obtain ⟨s1, s2⟩ := tr.slot hrg ht ops.size (Nat.le_refl _)
      by_cases hex : ∃ j o, j < ops.size ∧ ops[j]? = some o ∧ o.dst = some t
      · obtain ⟨j, o, hj, hoj, hdj⟩ := hex
        rw [← hgt, s1 j o hj hoj hdj]
        exact h1 j o (hall j hj) hoj t hdj ht
      · rw [← hgt, s2 (fun j o hj hoj hdj => hex ⟨j, o, hj, hoj, hdj⟩)]
        exact h2 t ht (fun i o hl hoi hdi => hex ⟨i, o, (Array.getElem?_eq_some_iff.1 hoi).1, hoi, hdi⟩)
  | succ fuel ih =>
    intro listed a x O hsz hcount hcl hR hd hts h1 h2
    refine ⟨fun hnil => ?_, fun i hi => ?_⟩
    · exfalso
      -- the first that is not listed may come up
      have hex : ∃ i, i < ops.size ∧ listed.getD i false = false := by
        have : ((List.range ops.size).filter fun i => !listed.getD i true) ≠ [] := fun h => by rw [h] at hcount; simp at hcount
        obtain ⟨i, hi⟩ := List.exists_mem_of_ne_nil _ this
        simp only [List.mem_filter, List.mem_range, Bool.not_eq_true'] at hi
        have hlt : i < listed.size := by omega
        refine ⟨i, hi.1, ?_⟩
        simpa [hlt] using hi.2
      obtain ⟨i, ⟨hi, hun⟩, hmin⟩ := exists_least (p := fun i => i < ops.size ∧ listed.getD i false = false) hex
      have ho : ops[i]? = some ops[i] := by simp [hi]
      have hlt : i < listed.size := by omega
      have : i ∈ Region.ready .any ops listed := by
        rw [mem_ready]
        refine ⟨by simpa [hlt] using hun, ops[i], ho, fun e he hb => ?_⟩
        have hmem : e.on ∈ bindsOf ops[i] := by
          unfold bindsOf
          exact List.mem_map.2 ⟨e, List.mem_filter.2 ⟨by simpa using he, hb⟩, rfl⟩
        have hlt2 := hrg.lt i _ (by simpa using ho) e.on hmem
        cases hl : listed.getD e.on false with
        | true => rfl
        | false => have := hmin e.on ⟨by omega, hl⟩; omega
      rw [hnil] at this
      cases this
    · obtain ⟨hun, o, ho, hall⟩ := mem_ready.1 hi
      have hin : i < ops.size := (Array.getElem?_eq_some_iff.1 ho).1
      have hlt : i < listed.size := by omega
      have hunf : listed.getD i false = false := by simpa [hlt] using hun
      have hol : ops.toList[i]? = some o := by simpa using ho
      have hbl : ∀ j, j ∈ bindsOf o → listed.getD j false = true := fun j hj => by
        unfold bindsOf at hj
        obtain ⟨e, he, rfl⟩ := List.mem_map.1 hj
        rw [List.mem_filter] at he
        exact hall e (by simpa using he.1) he.2
      have hanc : ∀ j, j ∈ (ancs ops.toList).getD i [] → listed.getD j false = true := fun j hj => by
        have hji := anc_lt hrg.lt i o hol j hj
        have := anc_closed (ops := ops.toList) (L := fun k => listed.getD k false = true ∨ k = i) (fun k p hk hp j hj => by
          rcases hk with hk | rfl
          · exact .inl (hcl k p hk (by simpa using hp) j hj)
          · rw [hol] at hp; cases hp; exact .inl (hbl j hj)) i o hol (.inr rfl) j hj
        exact this.resolve_right (by omega)
      have hdesc : ∀ k p, ops[k]? = some p → i ∈ (ancs ops.toList).getD k [] → listed.getD k false = false := fun k p hk hik => by
        cases hl : listed.getD k false with
        | false => rfl
        | true =>
          have := anc_closed (ops := ops.toList) (L := fun k => listed.getD k false = true) (fun k p hk hp j hj => hcl k p hk (by simpa using hp) j hj) k p (by simpa using hk) hl i hik
          rw [hunf] at this; cases this
      -- what it looks at is as in the order of the text
      have hslot : ∀ t, t ∈ looks ops.toList o → VA x (gT (Ts i) t) (a.tmps.getD t undef) := fun t htl => by
        by_cases ht : t < (Ts 0).length
        · obtain ⟨s1, s2⟩ := tr.slot hrg ht i (by omega)
          by_cases hex : ∃ j p, j < i ∧ ops[j]? = some p ∧ p.dst = some t
          · obtain ⟨j, p, hj, hpj, hdj⟩ := hex
            rw [s1 j p hj hpj hdj]
            have hl : listed.getD j false = true := by
              rcases hrg.look i j o p hol (by simpa using hpj) (by omega) t hdj htl with h | h
              · exact hanc j h
              · have := anc_lt hrg.lt j p (by simpa using hpj) i h; omega
            exact h1 j p hl hpj t hdj ht
          · rw [s2 (fun j p hj hpj hdj => hex ⟨j, p, hj, hpj, hdj⟩)]
            refine h2 t ht (fun k p hl hpk hdk => ?_)
            by_cases e : k = i
            · subst e; rw [hunf] at hl; cases hl
            · rcases hrg.look i k o p hol (by simpa using hpk) (fun h => e h.symm) t hdk htl with h | h
              · have hki := anc_lt hrg.lt i o hol k h
                exact hex ⟨k, p, hki, hpk, hdk⟩
              · rw [hdesc k p hpk h] at hl; cases hl
        · rw [gT_eq, List.getElem?_eq_none (by rw [tr.length i (by omega)]; omega)]
          exact .any _
      have hops : ∀ y, y ∈ o.op.operands.toList → VA x (ev E (Ts i) y) (a.eval y) := fun y hy => by
        cases y with
        | tmp t => exact hslot t (by unfold looks; exact List.mem_append_left _ (List.mem_filterMap.2 ⟨.tmp t, hy, rfl⟩))
        | const v => exact VA.cv x v
        | global g => exact .c _ _ (hR.glob hB g)
        | func f => exact .c _ _ (.clo _ [] #[] (fun _ => undef) rfl (fun i c hc => by simp at hc) (fun i c hc => by simp at hc))
      have hwant : Region.wanted o (yielded ops a.tmps) = true := by unfold Region.wanted; rw [tr.noguard i o ho]
      -- how the walk goes on
      have next : ∀ (v : Value) (y : Ctx) (O' : Nat → Nat → Prop), x.Le y → Rel B y O' (hpL (listed.setIfInBounds i true)) → VA y (val i) v →
          wpAny E.P .any ops Q' fuel (listed.setIfInBounds i true) (a.put o.dst v) y.w := fun v y O' hle hR' hv => by
        have hget : ∀ k, (listed.setIfInBounds i true).getD k false = true ↔ listed.getD k false = true ∨ k = i := fun k => by
          by_cases e : i = k
          · subst e; simp [hlt]
          · rw [getD_set_ne false e]; exact ⟨.inl, fun h => h.resolve_right (fun h => e h.symm)⟩
        have hput : ∀ t, (a.put o.dst v).tmps.getD t undef = if o.dst = some t ∧ t < a.tmps.size then v else a.tmps.getD t undef := fun t => by
          cases hdst : o.dst with
          | none => simp [Act.put]
          | some d =>
            simp only [Act.put, Option.some.injEq]
            by_cases e : d = t
            · subst e
              by_cases hd' : d < a.tmps.size
              · simp [hd']
              · simp [hd']
            · simp [Array.getElem?_setIfInBounds_ne e, e]
        refine ih _ _ y O' (by simpa using hsz) ?_ (fun k p hk hp j hj => ?_) hR' (by cases hdst : o.dst <;> simp [Act.put, hd]) (by cases hdst : o.dst <;> simp [Act.put, hts]) (fun k p hk hp t hdt ht => ?_) (fun t ht hn => ?_)
        · have hfil : ((List.range ops.size).filter fun k => !(listed.setIfInBounds i true).getD k true) = ((List.range ops.size).filter fun k => !listed.getD k true).filter fun k => k != i := by
            rw [List.filter_filter]
            refine List.filter_congr fun k hk => ?_
            by_cases e : i = k
            · subst e; simp [hlt]
            · rw [getD_set_ne true e]
              have : (k != i) = true := by simpa using fun h => e h.symm
              simp [this]
          rw [hfil]
          have hnd : ((List.range ops.size).filter fun k => !listed.getD k true).Nodup := List.Pairwise.filter _ List.nodup_range
          have hmem : i ∈ (List.range ops.size).filter fun k => !listed.getD k true := by
            rw [List.mem_filter, List.mem_range]
            exact ⟨hin, by simpa using hun⟩
          have := List.Nodup.erase_eq_filter hnd i
          have hle := List.length_erase_of_mem hmem
          rw [this, hcount] at hle
          simpa using hle
        · rw [hget] at hk ⊢
          rcases hk with hk | rfl
          · exact .inl (hcl k p hk hp j hj)
          · rw [ho] at hp; cases hp; exact .inl (hbl j hj)
        · rw [hget] at hk
          rw [hput]
          rcases hk with hk | rfl
          · have hne : k ≠ i := fun e => by subst e; rw [hunf] at hk; cases hk
            have : o.dst ≠ some t := fun hdo => hrg.dist i k o p hol (by simpa using hp) (fun h => hne h.symm) t hdo hdt
            rw [if_neg (fun h => this h.1)]
            exact (h1 k p hk hp t hdt ht).mono hle
          · rw [ho] at hp
            cases hp
            have hc : o.dst = some t ∧ t < a.tmps.size := ⟨hdt, by rw [hts]; exact ht⟩
            rw [if_pos hc]
            exact hv
        · have hne : o.dst ≠ some t := hn i o ((hget i).2 (.inr rfl)) ho
          rw [hput, if_neg (fun h => hne h.1)]
          exact (h2 t ht (fun k p hk hp => hn k p ((hget k).2 (.inl hk)) hp)).mono hle
      unfold wpOp
      rw [ho]
      simp only []
      rw [hwant]
      simp only [if_true]
      left
      exact tr.run listed i o hsz ho hunf hbl hcl B x O a _ _ hB hR hd (by rw [tr.length i (by omega)]; exact hts) hops (fun v' y O' hle hR' hv => next v' y O' hle hR' hv)
end
end Go.Eng
namespace Go.Eng
open Go.RowKit
set_option linter.unusedVariables false
set_option linter.unusedSimpArgs false
set_option linter.unnecessarySimpa false

def aMakeV (E : Env) (r s : Nat) (t : TypeId) (l c : A) : Option (A × Blk) :=
  match E.elt t with
  | some e => match E.inf e, sv l, sv c with
    | some (n + 1, b, z), some (.int _ i), some (.int _ k) =>
      if 0 < i ∧ i ≤ k ∧ k ≤ 9223372036854775807 ∧ (b : Int) * k ≤ 281474976710656 ∧ s = n + 1 then match zRow z.cells.toList with
        | some row => some (.c (.own r 0 i.toNat i.toNat), .rows (n + 1) (List.replicate i.toNat row))
        | none => none
      else none
    | _, _, _ => none
  | none => none

section
variable {E : Env} {B : Base} {x : Ctx} {O : Nat → Nat → Prop} {H : Heap}
theorem rows_fill (hR : Rel B x O H) {r : Nat} {s m : Nat} {ty : Option TypeId} (hbk : H[r]? = some (some (.rows s [] ty))) (hm0 : 0 < m) {rs : List (List D)} (cells : Array Value) (t : TypeId) (w' : World) (hw : w' = x.w.alloc (.cells cells t) ∨ w' = x.w.drew.alloc (.cells cells t)) (hs : 0 < s)
    (hl : ∀ r ∈ rs, r.length = s) (hsz : rs.length * s ≤ cells.size) (hm : rs.length = m) (cap : Nat) (hcap : m ≤ cap) (hcs : cap * s ≤ cells.size)
    (hd : ∀ j r c d, rs[j]? = some r → r[c]? = some d → ∃ u, cells[j * s + c]? = some u ∧ DR x.w x.F d u) :
    Outs B x (.c (.own r 0 m m)) (H.set r (some (.rows s rs))) (.slice (some ⟨x.w.heap.size, 0, none⟩) m cap) w' := by
  have hh : w'.heap = x.w.heap.push (.cells cells t) := by rcases hw with rfl | rfl <;> rfl
  have hos : w'.os = x.w.os ∧ w'.tape = x.w.tape ∧ w'.output = x.w.output := by rcases hw with rfl | rfl <;> exact ⟨rfl, rfl, rfl⟩
  have hnew : w'.heap[x.w.heap.size]? = some (.cells cells t) := by rw [hh]; simp
  have hrl : r < H.length := (List.getElem?_eq_some_iff.1 hbk).1
  obtain ⟨y, O', e1, l1, f1, m1, R1⟩ := hR.upd hbk (b' := .rows s rs) w' (some (x.w.heap.size, 0)) (fun k => k = x.w.heap.size) hos.1 hos.2.1 hos.2.2 (by rw [hh]; simp)
    (fun k hk _ => by rw [hh, Array.getElem?_push, if_neg (by omega)]) (fun k hk => by subst hk; exact ⟨.inr (Nat.le_refl _), by rw [hh]; simp⟩)
    ⟨rfl, Nat.zero_le _, fun he => by simp [Blk.n] at he; omega⟩
    (fun y hw' hle hF hμ => ⟨hs, hl, .inr ⟨_, 0, cells, t, hμ, rfl, by rw [hw']; exact hnew, Nat.zero_le _, by simpa using hsz, fun j r c d _ hj hc => by
      obtain ⟨u, hu, hv⟩ := hd j r c d hj hc
      exact ⟨u, by simpa using hu, hv.mono hle.F⟩⟩⟩)
  have hyL : y.L = H.length := by rw [R1.hL, List.length_set]
  refine ⟨y, O', e1, l1, R1, .c _ _ (.own _ _ _ _ _ ⟨rfl, by rw [hyL]; exact hrl, fun s' m' hN => ?_⟩)⟩
  have : y.N r = some (s, rs.length) := by rw [R1.hN]; exact nOf_some (b := .rows s rs) (by simp [hrl])
  rw [this] at hN
  cases hN
  refine ⟨by omega, fun _ => ?_⟩
  rw [m1]
  exact ⟨_, cap, cells.size, rfl, .inr (by simp), Nat.le_refl _, by omega, by omega, hcap, by unfold bsz; rw [e1, hnew], by simpa using hcs⟩

theorem aMakeV_ok (hR : Rel B x O H) {r s : Nat} {ty : Option TypeId} (hbk : H[r]? = some (some (.rows s [] ty))) {t : TypeId} {l c v : A} {p q : Value} {b' : Blk} (hl : VA x l p) (hc : VA x c q) (h : aMakeV E r s t l c = some (v, b')) :
    ∃ u w', (Instr.makeSlice t p q).run E.P x.w = .ok u w' ∧ Outs B x v (H.set r (some b')) u w' := by
  have et : ∀ {t e}, E.elt t = some e → E.und t = some (.slice e) := fun h => by unfold Env.elt at h; split at h; (cases h; assumption); cases h
  unfold aMakeV at h
  split at h
  · rename_i e he
    split at h
    · rename_i n bb z k1 i k2 k hi h1 h2
      obtain ⟨rfl, _⟩ := sv_eq h1 hl
      obtain ⟨rfl, _⟩ := sv_eq h2 hc
      split at h
      · rename_i hcnd
        obtain ⟨hpos, hik, hk, hb, rfl⟩ := hcnd
        have h0 : 0 ≤ i := by omega
        split at h
        · rename_i rw_ hr
          cases h
          obtain ⟨it, q1, q2, q3, q4⟩ := inf_run hi
          obtain ⟨hz1, hz2⟩ := E.hz _ _ _ _ hi
          obtain ⟨r1, r2⟩ := zRow_ok x.w x.F hr hz2
          have hr' := run_make (P := E.P) x.w t e it z (E.hund _ _ (et he)) q1 q4 k1 k2 i k h0 hik (by rw [q3]; exact hb) hk
          refine ⟨_, _, hr', ?_⟩
          rw [q2]
          have hki : i.toNat ≤ k.toNat := by omega
          refine rows_fill hR hbk (by omega) (m := i.toNat) (s := n + 1) (rs := List.replicate i.toNat rw_) _ e _ (.inl rfl) (by omega) (fun r' hr' => ?_) ?_ (by simp) k.toNat hki (by rw [size_madeCells]; exact Nat.le_refl _) (fun j r' c d hj hd => ?_)
          · rw [(List.mem_replicate.1 hr').2, r1]; simpa using hz1
          · rw [size_madeCells, List.length_replicate]; exact Nat.mul_le_mul_right _ hki
          · have hji : j < i.toNat := by have := (List.getElem?_eq_some_iff.1 hj).1; simpa using this
            have hre : r' = rw_ := by
              rw [List.getElem?_replicate, if_pos hji] at hj
              exact (Option.some.inj hj).symm
            subst hre
            obtain ⟨u, hu, hdr⟩ := r2 c d hd
            have hc : c < n + 1 := by have := (List.getElem?_eq_some_iff.1 hd).1; rw [r1] at this; simpa [hz1] using this
            refine ⟨u, ?_, hdr⟩
            have hlt : j * (n + 1) + c < k.toNat * (n + 1) := by
              have : (j + 1) * (n + 1) ≤ k.toNat * (n + 1) := Nat.mul_le_mul_right _ (by omega)
              rw [Nat.add_mul, Nat.one_mul] at this
              omega
            have hmod : (j * (n + 1) + c) % (n + 1) = c := by rw [Nat.add_comm, Nat.add_mul_mod_self_right, Nat.mod_eq_of_lt hc]
            have hcz : c < z.cells.size := by rw [hz1]; exact hc
            have hu' : z.cells[c] = u := by
              have : z.cells[c]? = some u := by simpa using hu
              rw [Array.getElem?_eq_getElem hcz] at this
              exact Option.some.inj this
            simp [madeCells, hlt, hz1, hmod]
            rw [getElem!_pos z.cells c hcz, hu']
        · cases h
      · cases h
    · cases h
  · cases h

theorem makeV_y {T : List A} {o : Oper} {r s : Nat} {ty : Option TypeId} {t : TypeId} {l c : Operand} {v : A} {b' : Blk} (ho : o.op = .makeSlice t l c) (hbk : H[r]? = some (some (.rows s [] ty))) (h : aMakeV E r s t (ev E T l) (ev E T c) = some (v, b')) :
    OpY E T H o v (H.set r (some b')) := by
  intro B x O a K Q hB hR hd hsz hop hk
  obtain ⟨u, w', h1, y, O', rfl, hle, hR', hv⟩ := aMakeV_ok hR hbk (hop l (by rw [ho]; simp [Op.operands])) (hop c (by rw [ho]; simp [Op.operands])) h
  have hk' : K (a.put o.dst u) y.w := hk u y O' hle hR' hv
  have hrun : (execOp a.eval o).run E.P x.w = .ok (.value u) y.w := by simp [execOp, ho, h1]
  unfold Oper.wp
  rw [hrun]
  exact hk'
end
end Go.Eng
namespace Go.Eng
open Go.RowKit
set_option linter.unusedVariables false
set_option linter.unusedSimpArgs false

def FP (E : Env) (hd0 : Heap) (T : List A) (o : Oper) (v : A) : Prop := (aop E T hd0 o.op = some (v, hd0) ∧ visA hd0 v = true ∧ visH hd0 hd0 = true) ∨ ∀ H2, aop E T H2 o.op = some (v, H2)
def FM (E : Env) (r s : Nat) (T : List A) (o : Oper) (v : A) (b : Blk) : Prop := ∃ t lo c, o.op = .makeSlice t lo c ∧ aMakeV E r s t (ev E T lo) (ev E T c) = some (v, b)
def FOps (E : Env) (i1 i2 r1 s1 r2 s2 : Nat) (hd0 : Heap) : Nat → List Oper → List A → Option Blk → Option Blk → (List A → Blk → Blk → Prop) → Prop
  | _, [], T, b1, b2, Q => ∃ c1 c2, b1 = some c1 ∧ b2 = some c2 ∧ Q T c1 c2
  | k, o :: l, T, b1, b2, Q => o.guard = none ∧ ∃ v, (k = i1 ∧ b1 = none ∧ ∃ b, FM E r1 s1 T o v b ∧ FOps E i1 i2 r1 s1 r2 s2 hd0 (k + 1) l (putT T o.dst v) (some b) b2 Q) ∨
      (k = i2 ∧ k ≠ i1 ∧ b2 = none ∧ ∃ b, FM E r2 s2 T o v b ∧ FOps E i1 i2 r1 s1 r2 s2 hd0 (k + 1) l (putT T o.dst v) b1 (some b) Q) ∨
      (k ≠ i1 ∧ k ≠ i2 ∧ FP E hd0 T o v ∧ FOps E i1 i2 r1 s1 r2 s2 hd0 (k + 1) l (putT T o.dst v) b1 b2 Q)

section
variable {E : Env} {ops : Array Oper} {i1 i2 r1 s1 r2 s2 : Nat} {hd0 : Heap}
def StepOk (E : Env) (i1 i2 r1 s1 r2 s2 : Nat) (hd0 : Heap) (val : Nat → A) (Ts : Nat → List A) (c1 c2 : Blk) (i : Nat) (o : Oper) : Prop :=
  o.guard = none ∧ Ts (i + 1) = putT (Ts i) o.dst (val i) ∧ ((i = i1 ∧ FM E r1 s1 (Ts i) o (val i) c1) ∨ (i = i2 ∧ i ≠ i1 ∧ FM E r2 s2 (Ts i) o (val i) c2) ∨ (i ≠ i1 ∧ i ≠ i2 ∧ FP E hd0 (Ts i) o (val i)))

theorem FOps.trace : ∀ (l : List Oper) (k : Nat) (T : List A) (o1 o2 : Option Blk) (Q : List A → Blk → Blk → Prop), ops.toList.drop k = l → k ≤ ops.size → FOps E i1 i2 r1 s1 r2 s2 hd0 k l T o1 o2 Q →
    ∃ (val : Nat → A) (Ts : Nat → List A) (c1 c2 : Blk), Ts k = T ∧ Q (Ts ops.size) c1 c2 ∧ (∀ b, o1 = some b → c1 = b) ∧ (∀ b, o2 = some b → c2 = b) ∧ ∀ (i : Nat) o, k ≤ i → ops[i]? = some o → StepOk E i1 i2 r1 s1 r2 s2 hd0 val Ts c1 c2 i o
  | [], k, T, o1, o2, Q, hl, hk, h => by
    obtain ⟨c1, c2, rfl, rfl, hq⟩ := h
    have hk : ops.size ≤ k := by
      have := List.drop_eq_nil_iff.1 hl
      simpa using this
    refine ⟨fun _ => .und, fun _ => T, c1, c2, rfl, hq, fun b h => by cases h; rfl, fun b h => by cases h; rfl, fun i o hi ho => ?_⟩
    have := (Array.getElem?_eq_some_iff.1 ho).1
    omega
  | o :: l, k, T, o1, o2, Q, hl, hk, h => by
    have hlt : k < ops.toList.length := by
      rcases Nat.lt_or_ge k ops.toList.length with h' | h'
      · exact h'
      · rw [List.drop_eq_nil_of_le h'] at hl; cases hl
    rw [List.drop_eq_getElem_cons hlt] at hl
    have ho : ops[k]? = some o := by
      have : ops.toList[k] = o := (List.cons.inj hl).1
      rw [← Array.getElem?_toList, List.getElem?_eq_getElem hlt, this]
    have hl' : ops.toList.drop (k + 1) = l := (List.cons.inj hl).2
    have hks : k + 1 ≤ ops.size := (show k < ops.size by simpa using hlt)
    obtain ⟨hg, v, h⟩ := h
    have go : ∀ (p1 p2 : Option Blk), FOps E i1 i2 r1 s1 r2 s2 hd0 (k + 1) l (putT T o.dst v) p1 p2 Q → (∀ b, o1 = some b → p1 = some b) → (∀ b, o2 = some b → p2 = some b) →
        (∀ c1 c2, (∀ b, p1 = some b → c1 = b) → (∀ b, p2 = some b → c2 = b) → ((k = i1 ∧ FM E r1 s1 T o v c1) ∨ (k = i2 ∧ k ≠ i1 ∧ FM E r2 s2 T o v c2) ∨ (k ≠ i1 ∧ k ≠ i2 ∧ FP E hd0 T o v))) →
        ∃ (val : Nat → A) (Ts : Nat → List A) (c1 c2 : Blk), Ts k = T ∧ Q (Ts ops.size) c1 c2 ∧ (∀ b, o1 = some b → c1 = b) ∧ (∀ b, o2 = some b → c2 = b) ∧ ∀ (i : Nat) o, k ≤ i → ops[i]? = some o → StepOk E i1 i2 r1 s1 r2 s2 hd0 val Ts c1 c2 i o := fun p1 p2 hrest hp1 hp2 hst => by
      obtain ⟨val, Ts, c1, c2, t1, t2, t3, t4, t5⟩ := FOps.trace l (k + 1) _ p1 p2 Q hl' hks hrest
      refine ⟨fun i => if i = k then v else val i, fun i => if i = k then T else Ts i, c1, c2, by simp, by simp only [if_neg (show ops.size ≠ k by omega)]; exact t2, fun b hb => t3 b (hp1 b hb), fun b hb => t4 b (hp2 b hb), fun i p hi hp => ?_⟩
      unfold StepOk
      by_cases e : i = k
      · subst e
        rw [ho] at hp
        cases hp
        simp only [if_pos, if_neg (show i + 1 ≠ i by omega)]
        exact ⟨hg, t1, hst c1 c2 t3 t4⟩
      · simp only [if_neg e, if_neg (show i + 1 ≠ k by omega)]
        exact t5 i p (by omega) hp
    rcases h with ⟨e, rfl, b, hm, hrest⟩ | ⟨e, hne, rfl, b, hm, hrest⟩ | ⟨h1, h2, hp, hrest⟩
    · exact go (some b) o2 hrest (fun b h => by cases h) (fun b h => h) (fun c1 c2 q1 q2 => .inl ⟨e, by rw [q1 b rfl]; exact hm⟩)
    · exact go o1 (some b) hrest (fun b h => h) (fun b h => by cases h) (fun c1 c2 q1 q2 => .inr (.inl ⟨e, hne, by rw [q2 b rfl]; exact hm⟩))
    · exact go o1 o2 hrest (fun b h => h) (fun b h => h) (fun c1 c2 q1 q2 => .inr (.inr ⟨h1, h2, hp⟩))

def fill2 (H0 : Heap) (i1 r1 i2 r2 : Nat) (c1 c2 : Blk) (L : Array Bool) : Heap :=
  if L.getD i2 false = true then (if L.getD i1 false = true then H0.set r1 (some c1) else H0).set r2 (some c2) else (if L.getD i1 false = true then H0.set r1 (some c1) else H0)

theorem leH_of : ∀ {H H' : Heap}, H.length = H'.length → (∀ (k : Nat) b, H'[k]? = some (some b) → H[k]? = some (some b)) → LeH H H'
  | [], [], _, _ => trivial
  | [], _ :: _, h, _ => by simp at h
  | _ :: _, [], h, _ => by simp at h
  | a :: l, b :: l', h, hb => by
    refine ⟨?_, leH_of (by simpa using h) (fun k c hc => by have := hb (k + 1) c (by simpa using hc); simpa using this)⟩
    cases b with
    | none => cases a <;> trivial
    | some b =>
      have := hb 0 b rfl
      cases this
      exact LeB_refl _

theorem awp_draw2 {T : List A} {H : Heap} {Q : Exit → List A → Heap → Prop} {m id : Nat} (i1 i2 r1 s1 r2 s2 : Nat) {t1 t2 : Option TypeId} (hi : i1 ≠ i2) (hr : r1 ≠ r2) (h1 : H[r1]? = some (some (.rows s1 [] t1))) (h2 : H[r2]? = some (some (.rows s2 [] t2)))
    (hi1 : i1 < ops.size) (hi2 : i2 < ops.size)
    (hrg : rgOk ops.toList (ops.toList.map fun _ => false) (ops.toList.map fun _ => false) = true)
    (h : FOps E i1 i2 r1 s1 r2 s2 ((H.set r1 none).set r2 none) 0 ops.toList T none none (fun T' c1 c2 => Q .normal T' ((H.set r1 (some c1)).set r2 (some c2)))) : AWP E (.region id ops true) T H Q m := by
  intro B a w hB hm hs
  obtain ⟨hdf, x, O, rfl, hR, hT⟩ := hs
  have hrr := RgOk.of hrg
  obtain ⟨val, Ts, c1, c2, q1, q2, _, _, q5⟩ := FOps.trace (E := E) (ops := ops) ops.toList 0 T none none _ (by simp) (Nat.zero_le _) h
  have hl1 : r1 < H.length := (List.getElem?_eq_some_iff.1 h1).1
  have hl2 : r2 < H.length := (List.getElem?_eq_some_iff.1 h2).1
  have hget : ∀ (L : Array Bool) (i k : Nat), L.size = ops.size → i < ops.size → (L.setIfInBounds i true).getD k false = if k = i then true else L.getD k false := fun L i k hL hlt => by
    by_cases e : k = i
    · subst e; simp [hL, hlt]
    · rw [if_neg e, getD_set_ne false (fun h => e h.symm)]
  have hpl : ∀ (L : Array Bool) (k : Nat) b, ((H.set r1 none).set r2 none)[k]? = some (some b) → (fill2 H i1 r1 i2 r2 c1 c2 L)[k]? = some (some b) := fun L k b hb => by
    rw [List.getElem?_set, List.getElem?_set] at hb
    by_cases e2 : r2 = k
    · rw [if_pos e2] at hb; split at hb <;> simp at hb
    · rw [if_neg e2] at hb
      by_cases e1 : r1 = k
      · rw [if_pos e1] at hb; split at hb <;> simp at hb
      · rw [if_neg e1] at hb
        unfold fill2
        split <;> split <;> simp [List.getElem?_set, e1, e2, hb]
  have hlen : ∀ L : Array Bool, (fill2 H i1 r1 i2 r2 c1 c2 L).length = H.length := fun L => by unfold fill2; split <;> split <;> simp
  have tr : TrL E ops val (fill2 H i1 r1 i2 r2 c1 c2) Ts := {
    noguard := fun i o ho => (q5 i o (Nat.zero_le _) ho).1
    step := fun i o ho => (q5 i o (Nat.zero_le _) ho).2.1
    run := fun L i o hL ho hun hb _ => by
      have hin : i < ops.size := (Array.getElem?_eq_some_iff.1 ho).1
      rcases (q5 i o (Nat.zero_le _) ho).2.2 with ⟨rfl, t, lo, c, hop, hmk⟩ | ⟨rfl, hne, t, lo, c, hop, hmk⟩ | ⟨hn1, hn2, hfp⟩
      · have hv : (fill2 H i r1 i2 r2 c1 c2 L)[r1]? = some (some (.rows s1 [] t1)) := by
          unfold fill2
          rw [hun]
          split <;> simp [List.getElem?_set, h1, Ne.symm hr]
        have := makeV_y (H := fill2 H i r1 i2 r2 c1 c2 L) hop hv hmk
        have e : fill2 H i r1 i2 r2 c1 c2 (L.setIfInBounds i true) = (fill2 H i r1 i2 r2 c1 c2 L).set r1 (some c1) := by
          unfold fill2
          rw [hget _ _ _ hL hin, hget _ _ _ hL hin, if_pos rfl, if_neg (Ne.symm hi), hun]
          split
          · simp only [if_pos, Bool.false_eq_true, if_false]
            exact (List.set_comm _ _ hr)
          · simp
        rw [e]; exact this
      · have hv : (fill2 H i1 r1 i r2 c1 c2 L)[r2]? = some (some (.rows s2 [] t2)) := by
          unfold fill2
          rw [hun]
          split
          · rename_i hc; cases hc
          · split <;> simp [List.getElem?_set, h2, hr]
        have := makeV_y (H := fill2 H i1 r1 i r2 c1 c2 L) hop hv hmk
        have e : fill2 H i1 r1 i r2 c1 c2 (L.setIfInBounds i true) = (fill2 H i1 r1 i r2 c1 c2 L).set r2 (some c2) := by
          unfold fill2
          rw [hget _ _ _ hL hin, hget _ _ _ hL hin, if_pos rfl, if_neg hi, hun]
          simp
        rw [e]; exact this
      · have e : fill2 H i1 r1 i2 r2 c1 c2 (L.setIfInBounds i true) = fill2 H i1 r1 i2 r2 c1 c2 L := by
          unfold fill2
          rw [hget _ _ _ hL hin, hget _ _ _ hL hin, if_neg (Ne.symm hn1), if_neg (Ne.symm hn2)]
        rw [e]
        rcases hfp with ⟨f1, f2, f3⟩ | f1
        · exact (Yld.y f1).frame (leH_of (by rw [hlen]; simp) (hpl L)) f2 f3
        · exact Yld.y (f1 _) }
  refine wp_region_any E.hmix ?_
  let y : Ctx := { w := x.w.drew, F := x.F, μ := x.μ, N := x.N, L := x.L }
  have hxy : x.Le y := ⟨fun k hk => ⟨hk, rfl⟩, Nat.le_refl _, Nat.le_refl _, fun id _ s m hm => ⟨m, hm, Nat.le_refl _, fun _ => ⟨rfl, fun _ _ _ => rfl⟩⟩⟩
  have hRy : Rel B y O H := ⟨hR.hL, hR.hN, hR.le.trans hxy, hR.os, hR.tape, hR.output, hR.keep, hR.own, hR.fr, hR.disj, hR.nof, fun id b hb => (hR.blk id b hb).mono hxy rfl (fun _ h => h) (fun _ _ => rfl)⟩
  have hTy := hT.mono hxy
  have hrep : ∀ i, (Array.replicate ops.size false).getD i false = false := fun i => by
    rw [Array.getD_eq_getD_getElem?, Array.getElem?_replicate]
    split <;> rfl
  have h00 : fill2 H i1 r1 i2 r2 c1 c2 (Array.replicate ops.size false) = H := by unfold fill2; rw [hrep, hrep]; simp
  have hfin : ∀ L : Array Bool, L.size = ops.size → (∀ i, i < ops.size → L.getD i false = true) → fill2 H i1 r1 i2 r2 c1 c2 L = (H.set r1 (some c1)).set r2 (some c2) := fun L hL hall => by
    unfold fill2; rw [hall i1 hi1, hall i2 hi2]; simp
  refine tr.any hrr hfin hB (fun a' w' hs' => ⟨Ts ops.size, _, q2, hs'⟩) ops.size (Array.replicate ops.size false) a y O (by simp) ?_ (fun i o hi => by rw [hrep] at hi; cases hi) (by rw [h00]; exact hRy) hdf (by rw [q1]; exact hTy.1) (fun i o hi => by rw [hrep] at hi; cases hi) (fun t ht hn => ?_)
  · have : ((List.range ops.size).filter fun i => !(Array.replicate ops.size false).getD i true) = List.range ops.size := by
      rw [List.filter_eq_self]
      intro i hi
      rw [List.mem_range] at hi
      simp [hi]
    rw [this, List.length_range]
  · rw [q1]
    exact hTy.get t
theorem fo_p {k : Nat} {l : List Oper} {o : Oper} {T : List A} {b1 b2 : Option Blk} {Q : List A → Blk → Blk → Prop} {v : A} (ha : aop E T hd0 o.op = some (v, hd0)) (hg : o.guard = none) (h1 : k ≠ i1) (h2 : k ≠ i2) (hv : visA hd0 v = true) (hh : visH hd0 hd0 = true)
    (h : FOps E i1 i2 r1 s1 r2 s2 hd0 (k + 1) l (putT T o.dst v) b1 b2 Q) : FOps E i1 i2 r1 s1 r2 s2 hd0 k (o :: l) T b1 b2 Q := ⟨hg, v, .inr (.inr ⟨h1, h2, .inl ⟨ha, hv, hh⟩, h⟩)⟩
theorem fo_q {k : Nat} {l : List Oper} {o : Oper} {T : List A} {b1 b2 : Option Blk} {Q : List A → Blk → Blk → Prop} {v : A} (ha : ∀ H2, aop E T H2 o.op = some (v, H2)) (hg : o.guard = none) (h1 : k ≠ i1) (h2 : k ≠ i2)
    (h : FOps E i1 i2 r1 s1 r2 s2 hd0 (k + 1) l (putT T o.dst v) b1 b2 Q) : FOps E i1 i2 r1 s1 r2 s2 hd0 k (o :: l) T b1 b2 Q := ⟨hg, v, .inr (.inr ⟨h1, h2, .inr ha, h⟩)⟩
theorem fo_1 {l : List Oper} {o : Oper} {T : List A} {b2 : Option Blk} {Q : List A → Blk → Blk → Prop} {v : A} {b : Blk} {t : TypeId} {lo c : Operand} (ho : o.op = .makeSlice t lo c) (hm : aMakeV E r1 s1 t (ev E T lo) (ev E T c) = some (v, b)) (hg : o.guard = none)
    (h : FOps E i1 i2 r1 s1 r2 s2 hd0 (i1 + 1) l (putT T o.dst v) (some b) b2 Q) : FOps E i1 i2 r1 s1 r2 s2 hd0 i1 (o :: l) T none b2 Q := ⟨hg, v, .inl ⟨rfl, rfl, b, ⟨t, lo, c, ho, hm⟩, h⟩⟩
theorem fo_2 {l : List Oper} {o : Oper} {T : List A} {b1 : Option Blk} {Q : List A → Blk → Blk → Prop} {v : A} {b : Blk} {t : TypeId} {lo c : Operand} (ho : o.op = .makeSlice t lo c) (hm : aMakeV E r2 s2 t (ev E T lo) (ev E T c) = some (v, b)) (hg : o.guard = none) (hne : i2 ≠ i1)
    (h : FOps E i1 i2 r1 s1 r2 s2 hd0 (i2 + 1) l (putT T o.dst v) b1 (some b) Q) : FOps E i1 i2 r1 s1 r2 s2 hd0 i2 (o :: l) T b1 none Q := ⟨hg, v, .inr (.inl ⟨rfl, hne, rfl, b, ⟨t, lo, c, ho, hm⟩, h⟩)⟩
theorem fo_e {k : Nat} {T : List A} {c1 c2 : Blk} {Q : List A → Blk → Blk → Prop} (h : Q T c1 c2) : FOps E i1 i2 r1 s1 r2 s2 hd0 k [] T (some c1) (some c2) Q := ⟨c1, c2, rfl, rfl, h⟩
end
theorem wk_vnew {m s : Nat} {T : List A} {H : Heap} (ty : Option TypeId) (hs : 0 < s) : Wk m T H T (H ++ [some (.rows s [] ty)]) := by
  intro B a w hm hsr
  obtain ⟨hd, x, O, rfl, hR, hT⟩ := hsr
  obtain ⟨z', O', e1, l1, f1, m1, L1, R1⟩ := hR.new (.rows s [] ty) x.w none (fun _ => False) rfl rfl rfl (Nat.le_refl _) (fun _ _ => rfl) (fun k hk => hk.elim)
    (fun y hw hle hF hμ => ⟨hs, by simp, .inl ⟨hμ, rfl⟩⟩)
  exact ⟨hd, z', O', e1, R1, hT.mono l1⟩
end Go.Eng
namespace Go.Eng
open Go.RowKit
set_option linter.unusedVariables false
set_option linter.unusedSimpArgs false
set_option linter.unnecessarySimpa false

def aAllocV (E : Env) (r s : Nat) (t : TypeId) : Option (A × Blk) :=
  match E.inf t with
  | some (n + 1, _, z) => if s = n + 1 then match zRow z.cells.toList with
    | some row => some (.c (.ptr r 0 0 1), .rows (n + 1) [row])
    | none => none
    else none
  | _ => none

section
variable {E : Env} {B : Base} {x : Ctx} {O : Nat → Nat → Prop} {H : Heap}
theorem rows_fillP (hR : Rel B x O H) {r : Nat} {s : Nat} {ty : Option TypeId} (hbk : H[r]? = some (some (.rows s [] ty))) {row : List D} (cells : Array Value) (t : TypeId) (hs : 0 < s)
    (hl : row.length = s) (hsz : cells.size = s) (hd : ∀ (c : Nat) d, row[c]? = some d → ∃ u, cells[c]? = some u ∧ DR x.w x.F d u) :
    Outs B x (.c (.ptr r 0 0 1)) (H.set r (some (.rows s [row]))) (.pointer (some ⟨x.w.heap.size, 0, none⟩)) (x.w.alloc (.cells cells t)) := by
  have hh : (x.w.alloc (.cells cells t)).heap = x.w.heap.push (.cells cells t) := rfl
  have hnew : (x.w.alloc (.cells cells t)).heap[x.w.heap.size]? = some (.cells cells t) := by rw [hh]; simp
  have hrl : r < H.length := (List.getElem?_eq_some_iff.1 hbk).1
  obtain ⟨y, O', e1, l1, f1, m1, R1⟩ := hR.upd hbk (b' := .rows s [row]) (x.w.alloc (.cells cells t)) (some (x.w.heap.size, 0)) (fun k => k = x.w.heap.size) rfl rfl rfl (by rw [hh]; simp)
    (fun k hk _ => by rw [hh, Array.getElem?_push, if_neg (by omega)]) (fun k hk => by subst hk; exact ⟨.inr (Nat.le_refl _), by rw [hh]; simp⟩)
    ⟨rfl, Nat.zero_le _, fun he => by simp [Blk.n] at he⟩
    (fun y hw' hle hF hμ => ⟨hs, by simpa using hl, .inr ⟨_, 0, cells, t, hμ, rfl, by rw [hw']; exact hnew, Nat.zero_le _, by simp [hsz], fun j r' c d _ hj hc => by
      have hj0 : j = 0 := by have := (List.getElem?_eq_some_iff.1 hj).1; simpa using this
      subst hj0
      have : r' = row := by simpa using hj.symm
      subst this
      obtain ⟨u, hu, hv⟩ := hd c d hc
      exact ⟨u, by simpa using hu, hv.mono hle.F⟩⟩⟩)
  have hyL : y.L = H.length := by rw [R1.hL, List.length_set]
  refine ⟨y, O', e1, l1, R1, .c _ _ (.ptr _ _ _ _ _ ⟨rfl, by rw [hyL]; exact hrl, fun s' m' hN => ?_⟩)⟩
  have : y.N r = some (s, 1) := by rw [R1.hN]; exact nOf_some (b := .rows s [row]) (by simp [hrl])
  rw [this] at hN
  cases hN
  exact ⟨Nat.le_refl _, fun _ => ⟨_, _, m1, Nat.le_refl _, by rw [if_neg (by omega)]; simp⟩⟩

theorem aAllocV_ok (hR : Rel B x O H) {r s : Nat} {ty : Option TypeId} (hbk : H[r]? = some (some (.rows s [] ty))) {t : TypeId} {v : A} {b' : Blk} (h : aAllocV E r s t = some (v, b')) :
    ∃ u w', (Instr.alloc t true (.tuple #[])).run E.P x.w = .ok u w' ∧ Outs B x v (H.set r (some b')) u w' := by
  unfold aAllocV at h
  split at h
  · rename_i n bb z hi
    split at h
    · rename_i hs
      subst hs
      split at h
      · rename_i row hr
        cases h
        obtain ⟨hz1, hz2⟩ := E.hz _ _ _ _ hi
        obtain ⟨r1, r2⟩ := zRow_ok x.w x.F hr hz2
        refine ⟨_, _, ?_, rows_fillP hR hbk z.cells t (by omega) (by rw [r1]; simpa using hz1) hz1 (fun c d hd => by obtain ⟨u, hu, hv⟩ := r2 c d hd; exact ⟨u, by simpa using hu, hv⟩)⟩
        simp [Instr.alloc, zero_run hi, newVar, newRow]
      · cases h
    · cases h
  · cases h

theorem allocV_y {T : List A} {o : Oper} {r s : Nat} {ty : Option TypeId} {t : TypeId} {v : A} {b' : Blk} (ho : o.op = .alloc t) (hbk : H[r]? = some (some (.rows s [] ty))) (h : aAllocV E r s t = some (v, b')) :
    OpY E T H o v (H.set r (some b')) := by
  intro B x O a K Q hB hR hd hsz hop hk
  obtain ⟨u, w', h1, y, O', rfl, hle, hR', hv⟩ := aAllocV_ok hR hbk h
  have hk' : K (a.put o.dst u) y.w := hk u y O' hle hR' hv
  have hrun : (execOp a.eval o).run E.P x.w = .ok (.value u) y.w := by simp [execOp, ho, h1]
  unfold Oper.wp
  rw [hrun]
  exact hk'
end

structure Two where
  (i1 i2 j1 j2 r1 s1 r2 s2 : Nat)

def FV (E : Env) (hd0 : Heap) (T : List A) (o : Oper) (v : A) : Prop := (aop E T hd0 o.op = some (v, hd0) ∧ visA hd0 v = true ∧ visH hd0 hd0 = true) ∨ ∀ H2, OpY E T H2 o v H2
def FA (E : Env) (r s : Nat) (o : Oper) (v : A) (b : Blk) : Prop := ∃ t, o.op = .alloc t ∧ aAllocV E r s t = some (v, b)
def FS (E : Env) (r : Nat) (T : List A) (o : Oper) (v : A) (c d : Blk) : Prop := ∀ H2 : Heap, H2[r]? = some (some c) → OpY E T H2 o v (H2.set r (some d))
inductive Sta | no | made (c : Blk) | done (c d : Blk)
def Sta.fst : Sta → Option Blk | .no => none | .made c => some c | .done c _ => some c
def Sta.snd : Sta → Option Blk | .done _ d => some d | _ => none
def GOps (E : Env) (w : Two) (hd0 : Heap) : Nat → List Oper → List A → Sta → Sta → (List A → Blk → Blk → Prop) → Prop
  | _, [], T, b1, b2, Q => ∃ c1 d1 c2 d2, b1 = .done c1 d1 ∧ b2 = .done c2 d2 ∧ Q T d1 d2
  | k, o :: l, T, b1, b2, Q => o.guard = none ∧ ∃ v, (k = w.i1 ∧ b1 = .no ∧ ∃ b, FA E w.r1 w.s1 o v b ∧ GOps E w hd0 (k + 1) l (putT T o.dst v) (.made b) b2 Q) ∨
      (k = w.i2 ∧ b2 = .no ∧ ∃ b, FA E w.r2 w.s2 o v b ∧ GOps E w hd0 (k + 1) l (putT T o.dst v) b1 (.made b) Q) ∨
      (k = w.j1 ∧ w.i1 ∈ bindsOf o ∧ ∃ c d, b1 = .made c ∧ FS E w.r1 T o v c d ∧ GOps E w hd0 (k + 1) l (putT T o.dst v) (.done c d) b2 Q) ∨
      (k = w.j2 ∧ w.i2 ∈ bindsOf o ∧ ∃ c d, b2 = .made c ∧ FS E w.r2 T o v c d ∧ GOps E w hd0 (k + 1) l (putT T o.dst v) b1 (.done c d) Q) ∨
      (k ≠ w.i1 ∧ k ≠ w.i2 ∧ k ≠ w.j1 ∧ k ≠ w.j2 ∧ FV E hd0 T o v ∧ GOps E w hd0 (k + 1) l (putT T o.dst v) b1 b2 Q)

section
variable {E : Env} {ops : Array Oper} {W : Two} {hd0 : Heap}
structure Fin2 where
  (c1 d1 c2 d2 : Blk)
def GStep (E : Env) (W : Two) (hd0 : Heap) (val : Nat → A) (Ts : Nat → List A) (c1 d1 c2 d2 : Blk) (i : Nat) (o : Oper) : Prop :=
  o.guard = none ∧ Ts (i + 1) = putT (Ts i) o.dst (val i) ∧ ((i = W.i1 ∧ FA E W.r1 W.s1 o (val i) c1) ∨ (i = W.i2 ∧ FA E W.r2 W.s2 o (val i) c2) ∨
    (i = W.j1 ∧ W.i1 ∈ bindsOf o ∧ FS E W.r1 (Ts i) o (val i) c1 d1) ∨ (i = W.j2 ∧ W.i2 ∈ bindsOf o ∧ FS E W.r2 (Ts i) o (val i) c2 d2) ∨ (i ≠ W.i1 ∧ i ≠ W.i2 ∧ i ≠ W.j1 ∧ i ≠ W.j2 ∧ FV E hd0 (Ts i) o (val i)))

theorem GOps.trace : ∀ (l : List Oper) (k : Nat) (T : List A) (o1 o2 : Sta) (Q : List A → Blk → Blk → Prop), ops.toList.drop k = l → k ≤ ops.size → GOps E W hd0 k l T o1 o2 Q →
    ∃ (val : Nat → A) (Ts : Nat → List A) (c1 d1 c2 d2 : Blk), Ts k = T ∧ Q (Ts ops.size) d1 d2 ∧ (∀ b, o1.fst = some b → c1 = b) ∧ (∀ b, o1.snd = some b → d1 = b) ∧ (∀ b, o2.fst = some b → c2 = b) ∧ (∀ b, o2.snd = some b → d2 = b) ∧ ∀ (i : Nat) o, k ≤ i → ops[i]? = some o → GStep E W hd0 val Ts c1 d1 c2 d2 i o
  | [], k, T, o1, o2, Q, hl, hk, h => by
    obtain ⟨c1, d1, c2, d2, rfl, rfl, hq⟩ := h
    have hk : ops.size ≤ k := by
      have := List.drop_eq_nil_iff.1 hl
      simpa using this
    refine ⟨fun _ => .und, fun _ => T, c1, d1, c2, d2, rfl, hq, ?_, ?_, ?_, ?_, fun i o hi ho => ?_⟩
    · intro b h; cases h; rfl
    · intro b h; cases h; rfl
    · intro b h; cases h; rfl
    · intro b h; cases h; rfl
    · have := (Array.getElem?_eq_some_iff.1 ho).1
      omega
  | o :: l, k, T, o1, o2, Q, hl, hk, h => by
    have hlt : k < ops.toList.length := by
      rcases Nat.lt_or_ge k ops.toList.length with h' | h'
      · exact h'
      · rw [List.drop_eq_nil_of_le h'] at hl; cases hl
    rw [List.drop_eq_getElem_cons hlt] at hl
    have ho : ops[k]? = some o := by
      have : ops.toList[k] = o := (List.cons.inj hl).1
      rw [← Array.getElem?_toList, List.getElem?_eq_getElem hlt, this]
    have hl' : ops.toList.drop (k + 1) = l := (List.cons.inj hl).2
    have hks : k + 1 ≤ ops.size := (show k < ops.size by simpa using hlt)
    obtain ⟨hg, v, h⟩ := h
    have go : ∀ (p1 p2 : Sta), GOps E W hd0 (k + 1) l (putT T o.dst v) p1 p2 Q → (∀ b, o1.fst = some b → p1.fst = some b) → (∀ b, o1.snd = some b → p1.snd = some b) → (∀ b, o2.fst = some b → p2.fst = some b) → (∀ b, o2.snd = some b → p2.snd = some b) →
        (∀ c1 d1 c2 d2, (∀ b, p1.fst = some b → c1 = b) → (∀ b, p1.snd = some b → d1 = b) → (∀ b, p2.fst = some b → c2 = b) → (∀ b, p2.snd = some b → d2 = b) →
          ((k = W.i1 ∧ FA E W.r1 W.s1 o v c1) ∨ (k = W.i2 ∧ FA E W.r2 W.s2 o v c2) ∨ (k = W.j1 ∧ W.i1 ∈ bindsOf o ∧ FS E W.r1 T o v c1 d1) ∨ (k = W.j2 ∧ W.i2 ∈ bindsOf o ∧ FS E W.r2 T o v c2 d2) ∨ (k ≠ W.i1 ∧ k ≠ W.i2 ∧ k ≠ W.j1 ∧ k ≠ W.j2 ∧ FV E hd0 T o v))) →
        ∃ (val : Nat → A) (Ts : Nat → List A) (c1 d1 c2 d2 : Blk), Ts k = T ∧ Q (Ts ops.size) d1 d2 ∧ (∀ b, o1.fst = some b → c1 = b) ∧ (∀ b, o1.snd = some b → d1 = b) ∧ (∀ b, o2.fst = some b → c2 = b) ∧ (∀ b, o2.snd = some b → d2 = b) ∧ ∀ (i : Nat) o, k ≤ i → ops[i]? = some o → GStep E W hd0 val Ts c1 d1 c2 d2 i o := fun p1 p2 hrest hp1 hp1' hp2 hp2' hst => by
      obtain ⟨val, Ts, c1, d1, c2, d2, t1, t2, t3, t3', t4, t4', t5⟩ := GOps.trace l (k + 1) _ p1 p2 Q hl' hks hrest
      refine ⟨fun i => if i = k then v else val i, fun i => if i = k then T else Ts i, c1, d1, c2, d2, by simp, by simp only [if_neg (show ops.size ≠ k by omega)]; exact t2, fun b hb => t3 b (hp1 b hb), fun b hb => t3' b (hp1' b hb), fun b hb => t4 b (hp2 b hb), fun b hb => t4' b (hp2' b hb), fun i p hi hp => ?_⟩
      unfold GStep
      by_cases e : i = k
      · subst e
        rw [ho] at hp
        cases hp
        simp only [if_pos, if_neg (show i + 1 ≠ i by omega)]
        exact ⟨hg, t1, hst c1 d1 c2 d2 t3 t3' t4 t4'⟩
      · simp only [if_neg e, if_neg (show i + 1 ≠ k by omega)]
        exact t5 i p (by omega) hp
    rcases h with ⟨e, rfl, b, hm, hrest⟩ | ⟨e, rfl, b, hm, hrest⟩ | ⟨e, hbi, c, d, rfl, hm, hrest⟩ | ⟨e, hbi, c, d, rfl, hm, hrest⟩ | ⟨h1, h2, h3, h4, hp, hrest⟩
    · exact go (.made b) o2 hrest (fun b h => by cases h) (fun b h => by cases h) (fun b h => h) (fun b h => h) (fun c1 d1 c2 d2 q1 _ q2 _ => .inl ⟨e, by rw [q1 b rfl]; exact hm⟩)
    · exact go o1 (.made b) hrest (fun b h => h) (fun b h => h) (fun b h => by cases h) (fun b h => by cases h) (fun c1 d1 c2 d2 q1 _ q2 _ => .inr (.inl ⟨e, by rw [q2 b rfl]; exact hm⟩))
    · exact go (.done c d) o2 hrest (fun b h => h) (fun b h => by cases h) (fun b h => h) (fun b h => h) (fun c1 d1 c2 d2 q1 q1' q2 _ => .inr (.inr (.inl ⟨e, hbi, by rw [q1 c rfl, q1' d rfl]; exact hm⟩)))
    · exact go o1 (.done c d) hrest (fun b h => h) (fun b h => h) (fun b h => h) (fun b h => by cases h) (fun c1 d1 c2 d2 q1 q1' q2 q2' => .inr (.inr (.inr (.inl ⟨e, hbi, by rw [q2 c rfl, q2' d rfl]; exact hm⟩))))
    · exact go o1 o2 hrest (fun b h => h) (fun b h => h) (fun b h => h) (fun b h => h) (fun c1 d1 c2 d2 q1 _ q2 _ => .inr (.inr (.inr (.inr ⟨h1, h2, h3, h4, hp⟩))))

def fillG (H0 : Heap) (W : Two) (c1 d1 c2 d2 : Blk) (L : Array Bool) : Heap :=
  fill2 H0 W.i1 W.r1 W.i2 W.r2 (if L.getD W.j1 false = true then d1 else c1) (if L.getD W.j2 false = true then d2 else c2) L

theorem awp_drawV {T : List A} {H : Heap} {Q : Exit → List A → Heap → Prop} {m id : Nat} (W : Two) {t1 t2 : Option TypeId} (hi : W.i1 ≠ W.i2 ∧ W.i1 ≠ W.j1 ∧ W.i1 ≠ W.j2 ∧ W.i2 ≠ W.j1 ∧ W.i2 ≠ W.j2 ∧ W.j1 ≠ W.j2) (hr : W.r1 ≠ W.r2) (h1 : H[W.r1]? = some (some (.rows W.s1 [] t1))) (h2 : H[W.r2]? = some (some (.rows W.s2 [] t2)))
    (hlt : W.i1 < ops.size ∧ W.i2 < ops.size ∧ W.j1 < ops.size ∧ W.j2 < ops.size)
    (hrg : rgOk ops.toList (ops.toList.map fun _ => false) (ops.toList.map fun _ => false) = true)
    (hbb : (match ops[W.j1]? with | some o => (bindsOf o).contains W.i1 | none => true) = true ∧ (match ops[W.j2]? with | some o => (bindsOf o).contains W.i2 | none => true) = true)
    (h : GOps E W ((H.set W.r1 none).set W.r2 none) 0 ops.toList T .no .no (fun T' c1 c2 => Q .normal T' ((H.set W.r1 (some c1)).set W.r2 (some c2)))) : AWP E (.region id ops true) T H Q m := by
  intro B a w hB hm hs
  obtain ⟨hdf, x, O, rfl, hR, hT⟩ := hs
  have hrr := RgOk.of hrg
  obtain ⟨val, Ts, c1, d1, c2, d2, q1, q2, _, _, _, _, q5⟩ := GOps.trace (E := E) (ops := ops) ops.toList 0 T .no .no _ (by simp) (Nat.zero_le _) h
  have hl1 : W.r1 < H.length := (List.getElem?_eq_some_iff.1 h1).1
  have hl2 : W.r2 < H.length := (List.getElem?_eq_some_iff.1 h2).1
  obtain ⟨hi1, hi2, hj1, hj2⟩ := hlt
  obtain ⟨e1, e2, e3, e4, e5, e6⟩ := hi
  have hbj1 : ∀ o, ops[W.j1]? = some o → W.i1 ∈ bindsOf o := fun o ho => by have := hbb.1; rw [ho] at this; simpa using this
  have hbj2 : ∀ o, ops[W.j2]? = some o → W.i2 ∈ bindsOf o := fun o ho => by have := hbb.2; rw [ho] at this; simpa using this
  have hget : ∀ (L : Array Bool) (i k : Nat), L.size = ops.size → i < ops.size → (L.setIfInBounds i true).getD k false = if k = i then true else L.getD k false := fun L i k hL hlt => by
    by_cases e : k = i
    · subst e; simp [hL, hlt]
    · rw [if_neg e, getD_set_ne false (fun h => e h.symm)]
  have hpl : ∀ (L : Array Bool) (k : Nat) b, ((H.set W.r1 none).set W.r2 none)[k]? = some (some b) → (fillG H W c1 d1 c2 d2 L)[k]? = some (some b) := fun L k b hb => by
    rw [List.getElem?_set, List.getElem?_set] at hb
    by_cases f2 : W.r2 = k
    · rw [if_pos f2] at hb; split at hb <;> simp at hb
    · rw [if_neg f2] at hb
      by_cases f1 : W.r1 = k
      · rw [if_pos f1] at hb; split at hb <;> simp at hb
      · rw [if_neg f1] at hb
        unfold fillG fill2
        split <;> split <;> simp [List.getElem?_set, f1, f2, hb]
  have hlen : ∀ L : Array Bool, (fillG H W c1 d1 c2 d2 L).length = H.length := fun L => by unfold fillG fill2; split <;> split <;> simp
  have tr : TrL E ops val (fillG H W c1 d1 c2 d2) Ts := {
    noguard := fun i o ho => (q5 i o (Nat.zero_le _) ho).1
    step := fun i o ho => (q5 i o (Nat.zero_le _) ho).2.1
    run := fun L i o hL ho hun hb hcl => by
      have hin : i < ops.size := (Array.getElem?_eq_some_iff.1 ho).1
      rcases (q5 i o (Nat.zero_le _) ho).2.2 with ⟨rfl, t, hop, hmk⟩ | ⟨rfl, t, hop, hmk⟩ | ⟨rfl, hbi, hfs⟩ | ⟨rfl, hbi, hfs⟩ | ⟨hn1, hn2, hn3, hn4, hfp⟩
      · have hj : L.getD W.j1 false = false := by
          cases hh : L.getD W.j1 false with
          | false => rfl
          | true => have := hcl W.j1 _ hh (Array.getElem?_eq_getElem hj1) W.i1 (hbj1 _ (Array.getElem?_eq_getElem hj1)); rw [hun] at this; cases this
        have hv : (fillG H W c1 d1 c2 d2 L)[W.r1]? = some (some (.rows W.s1 [] t1)) := by
          unfold fillG fill2
          rw [hun]
          split <;> simp [List.getElem?_set, h1, Ne.symm hr]
        have := allocV_y (H := fillG H W c1 d1 c2 d2 L) (T := Ts W.i1) hop hv hmk
        have e : fillG H W c1 d1 c2 d2 (L.setIfInBounds W.i1 true) = (fillG H W c1 d1 c2 d2 L).set W.r1 (some c1) := by
          unfold fillG fill2
          rw [hget _ _ _ hL hin, hget _ _ _ hL hin, hget _ _ _ hL hin, hget _ _ _ hL hin, if_pos rfl, if_neg (Ne.symm e1), if_neg (Ne.symm e2), if_neg (Ne.symm e3), hun, hj]
          split
          · simp only [if_pos, Bool.false_eq_true, if_false]
            exact (List.set_comm _ _ hr)
          · simp
        rw [e]; exact this
      · have hj : L.getD W.j2 false = false := by
          cases hh : L.getD W.j2 false with
          | false => rfl
          | true => have := hcl W.j2 _ hh (Array.getElem?_eq_getElem hj2) W.i2 (hbj2 _ (Array.getElem?_eq_getElem hj2)); rw [hun] at this; cases this
        have hv : (fillG H W c1 d1 c2 d2 L)[W.r2]? = some (some (.rows W.s2 [] t2)) := by
          unfold fillG fill2
          rw [hun]
          split
          · rename_i hc; cases hc
          · split <;> simp [List.getElem?_set, h2, hr]
        have := allocV_y (H := fillG H W c1 d1 c2 d2 L) (T := Ts W.i2) hop hv hmk
        have e : fillG H W c1 d1 c2 d2 (L.setIfInBounds W.i2 true) = (fillG H W c1 d1 c2 d2 L).set W.r2 (some c2) := by
          unfold fillG fill2
          rw [hget _ _ _ hL hin, hget _ _ _ hL hin, hget _ _ _ hL hin, hget _ _ _ hL hin, if_pos rfl, if_neg e1, if_neg (Ne.symm e4), if_neg (Ne.symm e5), hun, hj]
          simp
        rw [e]; exact this
      · have hi := hb W.i1 hbi
        have hv : (fillG H W c1 d1 c2 d2 L)[W.r1]? = some (some c1) := by
          unfold fillG fill2
          rw [hun, hi]
          split <;> simp [List.getElem?_set, hl1, Ne.symm hr]
        have := hfs _ hv
        have e : fillG H W c1 d1 c2 d2 (L.setIfInBounds W.j1 true) = (fillG H W c1 d1 c2 d2 L).set W.r1 (some d1) := by
          unfold fillG fill2
          rw [hget _ _ _ hL hin, hget _ _ _ hL hin, hget _ _ _ hL hin, hget _ _ _ hL hin, if_pos rfl, if_neg e2, if_neg e4, if_neg (Ne.symm e6), hun, hi]
          split
          · simp only [if_pos, Bool.false_eq_true, if_false]
            rw [List.set_comm _ _ (Ne.symm hr), List.set_set]
          · simp
        rw [e]; exact this
      · have hi := hb W.i2 hbi
        have hv : (fillG H W c1 d1 c2 d2 L)[W.r2]? = some (some c2) := by
          unfold fillG fill2
          rw [hun, hi]
          simp only [if_pos, Bool.false_eq_true, if_false]
          rw [List.getElem?_set_self (by split <;> simp [hl2])]
        have := hfs _ hv
        have e : fillG H W c1 d1 c2 d2 (L.setIfInBounds W.j2 true) = (fillG H W c1 d1 c2 d2 L).set W.r2 (some d2) := by
          unfold fillG fill2
          rw [hget _ _ _ hL hin, hget _ _ _ hL hin, hget _ _ _ hL hin, hget _ _ _ hL hin, if_pos rfl, if_neg e3, if_neg e5, if_neg e6, hun, hi]
          simp
        rw [e]; exact this
      · have e : fillG H W c1 d1 c2 d2 (L.setIfInBounds i true) = fillG H W c1 d1 c2 d2 L := by
          unfold fillG fill2
          rw [hget _ _ _ hL hin, hget _ _ _ hL hin, hget _ _ _ hL hin, hget _ _ _ hL hin, if_neg (Ne.symm hn1), if_neg (Ne.symm hn2), if_neg (Ne.symm hn3), if_neg (Ne.symm hn4)]
        rw [e]
        rcases hfp with ⟨f1, f2, f3⟩ | f1
        · exact (Yld.y f1).frame (leH_of (by rw [hlen]; simp) (hpl L)) f2 f3
        · exact f1 _ }
  refine wp_region_any E.hmix ?_
  let y : Ctx := { w := x.w.drew, F := x.F, μ := x.μ, N := x.N, L := x.L }
  have hxy : x.Le y := ⟨fun k hk => ⟨hk, rfl⟩, Nat.le_refl _, Nat.le_refl _, fun id _ s m hm => ⟨m, hm, Nat.le_refl _, fun _ => ⟨rfl, fun _ _ _ => rfl⟩⟩⟩
  have hRy : Rel B y O H := ⟨hR.hL, hR.hN, hR.le.trans hxy, hR.os, hR.tape, hR.output, hR.keep, hR.own, hR.fr, hR.disj, hR.nof, fun id b hb => (hR.blk id b hb).mono hxy rfl (fun _ h => h) (fun _ _ => rfl)⟩
  have hTy := hT.mono hxy
  have hrep : ∀ i, (Array.replicate ops.size false).getD i false = false := fun i => by
    rw [Array.getD_eq_getD_getElem?, Array.getElem?_replicate]
    split <;> rfl
  have h00 : fillG H W c1 d1 c2 d2 (Array.replicate ops.size false) = H := by unfold fillG fill2; rw [hrep, hrep]; simp
  have hfin : ∀ L : Array Bool, L.size = ops.size → (∀ i, i < ops.size → L.getD i false = true) → fillG H W c1 d1 c2 d2 L = (H.set W.r1 (some d1)).set W.r2 (some d2) := fun L hL hall => by
    unfold fillG fill2; rw [hall W.i1 hi1, hall W.i2 hi2, hall W.j1 hj1, hall W.j2 hj2]; simp
  refine tr.any hrr hfin hB (fun a' w' hs' => ⟨Ts ops.size, _, q2, hs'⟩) ops.size (Array.replicate ops.size false) a y O (by simp) ?_ (fun i o hi => by rw [hrep] at hi; cases hi) (by rw [h00]; exact hRy) hdf (by rw [q1]; exact hTy.1) (fun i o hi => by rw [hrep] at hi; cases hi) (fun t ht hn => ?_)
  · have : ((List.range ops.size).filter fun i => !(Array.replicate ops.size false).getD i true) = List.range ops.size := by
      rw [List.filter_eq_self]
      intro i hi
      rw [List.mem_range] at hi
      simp [hi]
    rw [this, List.length_range]
  · rw [q1]
    exact hTy.get t
theorem go_p {k : Nat} {l : List Oper} {o : Oper} {T : List A} {b1 b2 : Sta} {Q : List A → Blk → Blk → Prop} {v : A} (ha : aop E T hd0 o.op = some (v, hd0)) (hg : o.guard = none) (hk : k ≠ W.i1 ∧ k ≠ W.i2 ∧ k ≠ W.j1 ∧ k ≠ W.j2) (hv : visA hd0 v = true) (hh : visH hd0 hd0 = true)
    (h : GOps E W hd0 (k + 1) l (putT T o.dst v) b1 b2 Q) : GOps E W hd0 k (o :: l) T b1 b2 Q := ⟨hg, v, .inr (.inr (.inr (.inr ⟨hk.1, hk.2.1, hk.2.2.1, hk.2.2.2, .inl ⟨ha, hv, hh⟩, h⟩)))⟩
theorem go_q {k : Nat} {l : List Oper} {o : Oper} {T : List A} {b1 b2 : Sta} {Q : List A → Blk → Blk → Prop} {v : A} (ha : ∀ H2, aop E T H2 o.op = some (v, H2)) (hg : o.guard = none) (hk : k ≠ W.i1 ∧ k ≠ W.i2 ∧ k ≠ W.j1 ∧ k ≠ W.j2)
    (h : GOps E W hd0 (k + 1) l (putT T o.dst v) b1 b2 Q) : GOps E W hd0 k (o :: l) T b1 b2 Q := ⟨hg, v, .inr (.inr (.inr (.inr ⟨hk.1, hk.2.1, hk.2.2.1, hk.2.2.2, .inr (fun H2 => Yld.y (ha H2)), h⟩)))⟩
theorem go_c {k : Nat} {l : List Oper} {o : Oper} {T : List A} {b1 b2 : Sta} {Q : List A → Blk → Blk → Prop} {f : FuncId} {al : List A} {rl : A} {fo : Operand} {as : Array Operand} (ho : opIs o fo as) (hfo : ev E T fo = .c (.clo (.func f) [])) (hargs : as.toList.map (ev E T) = al)
    (hg : o.guard = none) (hk : k ≠ W.i1 ∧ k ≠ W.i2 ∧ k ≠ W.j1 ∧ k ≠ W.j2) (hf : AFn E f al [] rl []) (hr : ∀ g, renA g rl = rl) (ha : ∀ g, renAs g al = al) (hoA : okAs 0 al = true)
    (h : GOps E W hd0 (k + 1) l (putT T o.dst rl) b1 b2 Q) : GOps E W hd0 k (o :: l) T b1 b2 Q :=
  ⟨hg, rl, .inr (.inr (.inr (.inr ⟨hk.1, hk.2.1, hk.2.2.1, hk.2.2.2, .inr (fun H2 => by
    have := callY (E := E) (T := T) (H := H2) [] hf ho hfo (caps := []) (by rw [ha]; simpa using hargs) (by simp) (by simp) rfl (by simp) hoA rfl
    rw [hr] at this
    simpa [mrg] using this), h⟩)))⟩
theorem go_1 {k : Nat} {l : List Oper} {o : Oper} {T : List A} {b2 : Sta} {Q : List A → Blk → Blk → Prop} {v : A} {b : Blk} {t : TypeId} (ho : o.op = .alloc t) (hk : k = W.i1) (hm : aAllocV E W.r1 W.s1 t = some (v, b)) (hg : o.guard = none)
    (h : GOps E W hd0 (k + 1) l (putT T o.dst v) (.made b) b2 Q) : GOps E W hd0 k (o :: l) T .no b2 Q := ⟨hg, v, .inl ⟨hk, rfl, b, ⟨t, ho, hm⟩, h⟩⟩
theorem go_2 {k : Nat} {l : List Oper} {o : Oper} {T : List A} {b1 : Sta} {Q : List A → Blk → Blk → Prop} {v : A} {b : Blk} {t : TypeId} (ho : o.op = .alloc t) (hk : k = W.i2) (hm : aAllocV E W.r2 W.s2 t = some (v, b)) (hg : o.guard = none)
    (h : GOps E W hd0 (k + 1) l (putT T o.dst v) b1 (.made b) Q) : GOps E W hd0 k (o :: l) T b1 .no Q := ⟨hg, v, .inr (.inl ⟨hk, rfl, b, ⟨t, ho, hm⟩, h⟩)⟩
theorem fs_1 {T : List A} {o : Oper} {r : Nat} {t : TypeId} {p y : Operand} {x d : D} {ty : Option TypeId} (ho : o.op = .store t p y) (hp : ev E T p = .c (.ptr r 0 0 1)) (hy : ev E T y = .c (.d d)) (hs : E.size t = some 1) :
    FS E r T o .und (.rows 1 [[x]] ty) (.rows 1 [[d]] ty) := fun H2 h2 => by
  refine Yld.y ?_
  rw [ho]
  simp only [aop]
  unfold aStore put'
  rw [hp, hy, hs]
  have hg : hG H2 r = some (.rows 1 [[x]] ty) := by rw [hG_eq, h2]; rfl
  simp [cellsOf, hg, toDs, toD, splC, hP_eq, rowsAt]
theorem go_s1 {k : Nat} {l : List Oper} {o : Oper} {T : List A} {b2 : Sta} {Q : List A → Blk → Blk → Prop} {t : TypeId} {p y : Operand} {x d : D} {ty : Option TypeId} (ho : o.op = .store t p y) (hk : k = W.j1) (hbi : W.i1 ∈ bindsOf o) (hp : ev E T p = .c (.ptr W.r1 0 0 1)) (hy : ev E T y = .c (.d d)) (hs : E.size t = some 1) (hg : o.guard = none)
    (h : GOps E W hd0 (k + 1) l (putT T o.dst .und) (.done (.rows 1 [[x]] ty) (.rows 1 [[d]] ty)) b2 Q) : GOps E W hd0 k (o :: l) T (.made (.rows 1 [[x]] ty)) b2 Q :=
  ⟨hg, .und, .inr (.inr (.inl ⟨hk, hbi, _, _, rfl, fs_1 ho hp hy hs, h⟩))⟩
theorem go_s2 {k : Nat} {l : List Oper} {o : Oper} {T : List A} {b1 : Sta} {Q : List A → Blk → Blk → Prop} {t : TypeId} {p y : Operand} {x d : D} {ty : Option TypeId} (ho : o.op = .store t p y) (hk : k = W.j2) (hbi : W.i2 ∈ bindsOf o) (hp : ev E T p = .c (.ptr W.r2 0 0 1)) (hy : ev E T y = .c (.d d)) (hs : E.size t = some 1) (hg : o.guard = none)
    (h : GOps E W hd0 (k + 1) l (putT T o.dst .und) b1 (.done (.rows 1 [[x]] ty) (.rows 1 [[d]] ty)) Q) : GOps E W hd0 k (o :: l) T b1 (.made (.rows 1 [[x]] ty)) Q :=
  ⟨hg, .und, .inr (.inr (.inr (.inl ⟨hk, hbi, _, _, rfl, fs_1 ho hp hy hs, h⟩)))⟩
theorem go_e {k : Nat} {T : List A} {c1 d1 c2 d2 : Blk} {Q : List A → Blk → Blk → Prop} (h : Q T d1 d2) : GOps E W hd0 k [] T (.done c1 d1) (.done c2 d2) Q := ⟨c1, d1, c2, d2, rfl, rfl, h⟩
attribute [go_sem] aAllocV
end
end Go.Eng
namespace Go.Eng
open Go.RowKit
theorem wk_id {m : Nat} {T : List A} {H : Heap} : Wk m T H T H := fun _ _ _ _ h => h
theorem fin_own {E : Env} {rs : List ResultVar} {l : List A} {T : List A} {H H' : Heap} {m : Nat} {r : A} (h6 : H = H') (h5 : oneRes l = r) (h1 : resA E T H rs = some l := by (simp (disch := omega) only [go_sem]; first | done | rfl)) : Fin E rs r H' m .ret T H :=
  ⟨l, h1, by subst h5; subst h6; exact wk_id⟩
end Go.Eng
