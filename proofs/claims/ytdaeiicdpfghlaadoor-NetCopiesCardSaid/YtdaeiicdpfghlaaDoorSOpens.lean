/- How an argument that can be read as data of a type is one of a Lean value's kind: for whole numbers, bools, strings, slices, structs and structs nested in themselves. -/
import Derived.Test.YtdaeiicdpfghlaaDoorV0
import Derived.ChangeArms
import Derived.Deep.Slices
import Derived.SizedLaws
import Derived.Carry
import Derived.WideShapes
set_option linter.unusedVariables false
set_option linter.unusedSimpArgs false
namespace Go.Proofs.YtdaeiicdpfghlaaDoor.Opens
open Go.RowKit Go.WideShapes Go.Proofs.YtdaeiicdpfghlaaDoorW.PrintWords

/-- Whatever reads as a datum of type t, no part of it too long, is a value of kind d. -/
def Opn {α : Type} (H : Type) (enc : TypeId × Value → H) (P : Program) (W : World) (base : Nat) (spare : Nat → Bool) (held : Bool) (t : TypeId) (d : Kd α) (ok : α → Prop) (n : Nat) : Prop :=
  ∀ cs x, DataW.trod enc P W base spare held n t cs = some x → (∀ m ∈ x.1.weights P t, m ≤ reachBytes) → ∃ a, d.K W a cs ∧ ok a

/-- .. of fields in line, from a place on. -/
def OpnF {α : Type} (H : Type) (enc : TypeId × Value → H) (P : Program) (W : World) (base : Nat) (spare : Nat → Bool) (held : Bool) (o : Nat) (fs : List Field) (d : Kd α) (ok : α → Prop) (n : Nat) : Prop :=
  ∀ (cs : List Value) (ys : List (DataW H × List MemPlace)), (∀ (i : Nat) (f : Field), fs[i]? = some f → DataW.trod enc P W base spare held n f.type ((cs.drop f.offset).take (P.cellsOf f.type)) = ys[i]?) → ys.length = fs.length →
    (∀ m ∈ DataW.weightsEach P (fs.map (·.type)) (ys.map (·.1)), m ≤ reachBytes) → ∃ a, d.K W a ((cs.drop o).take d.sz) ∧ ok a

section
variable {α β : Type} {H : Type} {enc : TypeId × Value → H} {P : Program} {W : World} {base : Nat} {spare : Nat → Bool} {held : Bool} {n : Nat} {t e : TypeId}

theorem opn_int {k : IntKind} (ht : P.underlying t = some (.int k)) : Opn H enc P W base spare held t (Kd.int k) (fun a => (Lit.int k a).wf = true) n := by
  intro cs x h _
  obtain ⟨m, rfl, rfl, hw⟩ := DataW.trod_int ht h
  exact ⟨m, rfl, hw⟩
theorem opn_bool (ht : P.underlying t = some .bool) : Opn H enc P W base spare held t Kd.bool (fun _ => True) n := by
  intro cs x h _
  obtain ⟨b, rfl, rfl⟩ := DataW.trod_bool ht h
  exact ⟨b, rfl, trivial⟩
theorem opn_string (ht : P.underlying t = some .string) : Opn H enc P W base spare held t Kd.string (fun s => s.size ≤ 140737488351232) n := by
  intro cs x h hw
  obtain ⟨s, rfl, rfl, _⟩ := DataW.trod_string ht h
  have := hw s.data.toList.length (by simp [DataW.weights])
  exact ⟨s, rfl, by simpa [reachBytes] using this⟩

theorem weightsAll_mem {P : Program} {e : TypeId} : ∀ {l : List (DataW H)} {d : DataW H}, d ∈ l → ∀ m ∈ d.weights P e, m ∈ DataW.weightsAll P e l
  | d0 :: l, d, hd, m, hm => by
    simp only [DataW.weightsAll, List.mem_append]
    rcases List.mem_cons.1 hd with rfl | hd
    · exact .inl hm
    · exact .inr (weightsAll_mem hd m hm)

theorem opn_slice {d : Kd α} {ok : α → Prop} {B : Nat} (ht : P.underlying t = some (.slice e)) (hB : P.bytesOf e = B) (hsz : P.cellsOf e = d.sz)
    (h : ∀ m, m < n → Opn H enc P W base spare held e d ok m) : Opn H enc P W base spare held t (Kd.slice e d) (fun xs => xs.length * B ≤ 140737488351232 ∧ xs.length ≤ 9223372036854775807 ∧ ∀ a ∈ xs, ok a) n := by
  intro cs x hx hw
  rcases DataW.trod_slice ht hx with ⟨rfl, rfl⟩ | ⟨a, len, cap, elems, rest, n', rfl, rfl, rfl, hb, hl, hc, hlen, hel, _, _⟩
  · exact ⟨[], ⟨none, 0, rfl, Nat.le_refl _, rfl, by simp, fun h => absurd h (by simp)⟩, by simp, by simp, by simp⟩
  have key : ∀ k, k ≤ len → ∃ xs : List α, xs.length = k ∧ (∀ a ∈ xs, ok a) ∧ ∀ j p, xs[j]? = some p → ∃ c, c.length = d.sz ∧ d.K W p c ∧ ∀ i u, c[i]? = some u → W.cell? (a.add (j * d.sz + i)) = some u := by
    intro k
    induction k with
    | zero => exact fun _ => ⟨[], rfl, by simp, by simp⟩
    | succ k ih =>
      intro hk
      obtain ⟨xs, hxl, hok, hxs⟩ := ih (by omega)
      have h1 := hel k (by omega)
      rw [List.getElem?_eq_getElem (show k < elems.length by omega)] at h1
      obtain ⟨cs', hcs, htr⟩ := Option.bind_eq_some_iff.1 h1
      obtain ⟨_, hcl, hat⟩ := World.cells?_some hcs
      obtain ⟨p, hK, hp⟩ := h n' (by omega) cs' _ htr (fun m hm => hw m (by
        simp only [DataW.weights, ht, List.mem_cons, List.mem_append]
        exact .inr (.inl (weightsAll_mem (List.mem_map.2 ⟨_, List.getElem_mem _, rfl⟩) m hm))))
      refine ⟨xs ++ [p], by simp [hxl], ?_, ?_⟩
      · intro q hq
        rcases List.mem_append.1 hq with hq | hq
        · exact hok q hq
        · rw [List.mem_singleton.1 hq]
          exact hp
      · intro j q hj
        rcases Nat.lt_or_ge j k with hjk | hjk
        · rw [List.getElem?_append_left (by omega)] at hj
          exact hxs j q hj
        · have hjl : j < (xs ++ [p]).length := (List.getElem?_eq_some_iff.1 hj).1
          have : j = k := by simp at hjl; omega
          subst this
          rw [List.getElem?_append_right (by omega), hxl, Nat.sub_self] at hj
          obtain rfl := Option.some.inj hj
          refine ⟨cs', by rw [hcl, hsz], hK, fun i u hi => ?_⟩
          have hil : i < cs'.length := (List.getElem?_eq_some_iff.1 hi).1
          have h3 := hat i (by omega)
          rw [hsz, Go.Deep.add_add] at h3
          rw [h3, hi]
  obtain ⟨xs, hxl, hok, hxs⟩ := key len (Nat.le_refl _)
  have hlm : len ≤ 9223372036854775807 := by unfold maxLen at hc; omega
  refine ⟨xs, ⟨some a, cap, by rw [hxl], by omega, by rw [hxl], by omega, fun _ => ⟨a, rfl, hxs⟩⟩, ?_, by omega, hok⟩
  have := hw _ (by simp only [DataW.weights, ht]; exact List.mem_cons_self)
  simp only [List.length_map, hlen, hB, reachBytes] at this
  rw [hxl]
  exact Nat.le_trans (Nat.mul_le_mul_right _ (Nat.le_add_right _ _)) this

theorem opnF_one {f : Field} {o : Nat} {d : Kd α} {ok : α → Prop} (ho : f.offset = o) (hs : P.cellsOf f.type = d.sz) (h : Opn H enc P W base spare held f.type d ok n) : OpnF H enc P W base spare held o [f] d ok n := by
  intro cs ys hf hl hw
  match ys, hl with
  | [y], _ =>
    have h1 := hf 0 f rfl
    rw [ho, hs] at h1
    exact h _ y h1 (fun m hm => hw m (by simp [DataW.weightsEach, hm]))
theorem opnF_cons {f : Field} {fs : List Field} {o : Nat} {d1 : Kd α} {d2 : Kd β} {ok1 : α → Prop} {ok2 : β → Prop} (ho : f.offset = o) (hs : P.cellsOf f.type = d1.sz) (h : Opn H enc P W base spare held f.type d1 ok1 n)
    (hr : OpnF H enc P W base spare held (o + d1.sz) fs d2 ok2 n) : OpnF H enc P W base spare held o (f :: fs) (Kd.pair d1 d2) (fun x => ok1 x.1 ∧ ok2 x.2) n := by
  intro cs ys hf hl hw
  match ys, hl with
  | y :: ys, hl =>
    have h1 := hf 0 f rfl
    rw [ho, hs] at h1
    obtain ⟨a, ha, hoka⟩ := h _ y h1 (fun m hm => hw m (by simp [DataW.weightsEach, hm]))
    obtain ⟨b, hb, hokb⟩ := hr cs ys (fun i g hg => by have := hf (i + 1) g (by simpa using hg); simpa using this) (by simpa using hl) (fun m hm => hw m (by
      simp only [List.map_cons, DataW.weightsEach, List.mem_append]
      exact .inr hm))
    refine ⟨(a, b), ⟨_, _, ?_, ha, hb⟩, hoka, hokb⟩
    show (cs.drop o).take (d1.sz + d2.sz) = _
    rw [List.take_add, List.drop_drop]
theorem opn_struct {fs : Array Field} {d : Kd α} {ok : α → Prop} {f : β → α} (g : α → β) (ht : P.underlying t = some (.struct fs)) (hC : P.cellsOf t = d.sz) (hg : ∀ a, f (g a) = a)
    (h : ∀ m, m < n → OpnF H enc P W base spare held 0 fs.toList d ok m) : Opn H enc P W base spare held t (Kd.iso d f) (fun b => ok (f b)) n := by
  intro cs x hx hw
  obtain ⟨ys, m, hm, rfl, hcl, hyl, hf⟩ := DataW.trod_struct ht hx
  obtain ⟨a, ha, hok⟩ := h m (by omega) cs ys (fun i f hi => hf i f (by simpa using hi)) (by simpa using hyl) (fun k hk => hw k (by simpa [DataW.weights, ht] using hk))
  refine ⟨g a, ?_, by show ok (f (g a)); rw [hg]; exact hok⟩
  show d.K W (f (g a)) cs
  rw [hg]
  rw [List.drop_zero, List.take_of_length_le (by rw [hcl, hC]; exact Nat.le_refl _)] at ha
  exact ha
/-- A type nested in itself. -/
theorem opn_fix {d : Kd α} {ok : α → Prop} (h : ∀ n, (∀ m, m < n → Opn H enc P W base spare held t d ok m) → Opn H enc P W base spare held t d ok n) : ∀ n, Opn H enc P W base spare held t d ok n := by
  intro n
  induction n using Nat.strongRecOn with
  | _ n ih => exact h n ih
theorem opn_imp {d d' : Kd α} {ok ok' : α → Prop} (h : Opn H enc P W base spare held t d ok n) (hK : ∀ a cs, d.K W a cs → d'.K W a cs) (hok : ∀ a, ok a → ok' a) : Opn H enc P W base spare held t d' ok' n := by
  intro cs x hx hw
  obtain ⟨a, h1, h2⟩ := h cs x hx hw
  exact ⟨a, hK _ _ h1, hok _ h2⟩
/-- The use: an argument. -/
theorem opened {d : Kd α} {ok : α → Prop} {v : Value} {dt : DataW H} {p : List MemPlace} (h : ∀ n, Opn H enc P W base spare held t d ok n) (ht : DataW.Trod enc P W base spare held t v dt p) {ts : List TypeId} {ds : List (DataW H)} {j : Nat}
    (hsz : (DataW.weightsEach P ts ds).all (· ≤ reachBytes) = true) (hj : ts[j]? = some t) (hd : ds[j]? = some dt) : ∃ a, d.K W a v.cells.toList ∧ ok a := by
  obtain ⟨fuel, hf⟩ := ht
  exact h fuel _ _ hf (fun m hm => by simpa using List.all_eq_true.1 hsz _ (DataW.weights_mem_each hj hd m hm))
/-- Depths of what is nested in itself, brought together. -/
theorem all_deep {q : Nat → α → Prop} (hm : ∀ n a, q n a → q (n + 1) a) : ∀ {l : List α}, (∀ a ∈ l, ∃ n, q n a) → ∃ n, ∀ a ∈ l, q n a
  | [], _ => ⟨0, by simp⟩
  | a :: l, h => by
    have up : ∀ n k a, q n a → q (n + k) a := fun n k a => by
      induction k with
      | zero => exact id
      | succ k ih => exact fun h => hm _ _ (ih h)
    obtain ⟨n, hn⟩ := h a (by simp)
    obtain ⟨k, hk⟩ := all_deep hm (l := l) (fun b hb => h b (by simp [hb]))
    refine ⟨n + k, fun b hb => ?_⟩
    rcases List.mem_cons.1 hb with rfl | hb
    · exact up n k _ hn
    · rw [Nat.add_comm]
      exact up k n _ (hk b hb)
end
end Go.Proofs.YtdaeiicdpfghlaaDoor.Opens
