/- The words of a machine on plain data, and that the program does what this machine does. -/
import Derived.Below
import Derived.Orders
import Derived.Laws.Cells
import Derived.Laws.CopyRow
import Derived.Laws.StructEq
import Derived.ChangeKeysEq
import Derived.Tactics
import Derived.Laws.Slices
import Derived.Laws.IdiomCopy
import Derived.Laws.Append
namespace Go.Eng
open Go.RowKit
set_option linter.unusedVariables false

inductive D
  | sc (v : Value)
  | fz (rs : List (List D))

inductive C
  | d (x : D)
  | nils
  | own (id off len n : Nat)
  | ptr (id j off n : Nat)
  | pf (cells : List D) (off : Nat)
  | pa (rows : List (List D))
  | clo (fn : Fn) (caps : List C)
  | any

inductive A
  | c (x : C)
  | agg (cells : List C)
  | tup (vs : List A)
  | und
  | any

structure Raw where
  R : World → (Nat → Prop) → (Nat → Prop) → Option (Nat × Nat) → Prop
  mono : ∀ {w w' : World} {F F' O O' : Nat → Prop} {b : Option (Nat × Nat)}, (∀ k, F k → F' k ∧ w'.heap[k]? = w.heap[k]?) → (∀ k, O k → O' k) → (∀ k, O k → w'.heap[k]? = w.heap[k]?) → R w F O b → R w' F' O' b

inductive Blk
  | box (cells : List C) (ty : Option TypeId := none)
  | rows (s : Nat) (rs : List (List D)) (ty : Option TypeId := none)
  | mp (es : List (Value × Value))
  | raw (r : Raw)

abbrev Heap := List (Option Blk)

def one : Value → Bool | .agg _ => false | .tuple _ => false | _ => true

inductive DR (w : World) (F : Nat → Prop) : D → Value → Prop
  | sc (v : Value) (h : one v = true) : DR w F (.sc v) v
  | nil (a : Option Addr) (cap : Nat) : DR w F (.fz []) (.slice a 0 cap)
  | fz (rs : List (List D)) (b o cap s : Nat) (u : Nat → Nat → Value) (hcap : rs.length ≤ cap) (hs : ∀ r ∈ rs, r.length = s) (hF : F b)
      (hc : ∀ i r c x, rs[i]? = some r → r[c]? = some x → w.cell? ⟨b, o + (i * s + c), none⟩ = some (u i c))
      (hd : ∀ i r c x, rs[i]? = some r → r[c]? = some x → DR w F x (u i c)) : DR w F (.fz rs) (.slice (some ⟨b, o, none⟩) rs.length cap)

def bsz (w : World) (b : Nat) : Option Nat := match w.heap[b]? with | some (.cells vs _ _) => some vs.size | _ => none

structure Ctx where
  w : World
  F : Nat → Prop
  μ : Nat → Option (Nat × Nat)
  N : Nat → Option (Nat × Nat)
  L : Nat

def OwnR (x : Ctx) (id off len n : Nat) (v : Value) : Prop :=
  one v = true ∧ id < x.L ∧ ∀ s m, x.N id = some (s, m) → n ≤ m ∧ (n = m → match x.μ id with
    | none => v = .slice none 0 0 ∧ off = 0 ∧ len = 0 ∧ n = 0
    | some (b, lo) => ∃ a cap sz, v = .slice (some a) len cap ∧ (cap = 0 ∨ a = ⟨b, (off - lo) * s, none⟩) ∧ lo ≤ off ∧ off + len ≤ n ∧ n ≤ off + cap ∧ len ≤ cap ∧ bsz x.w b = some sz ∧ (off + cap - lo) * s ≤ sz)

def PtrR (x : Ctx) (id j off n : Nat) (v : Value) : Prop :=
  one v = true ∧ id < x.L ∧ ∀ s m, x.N id = some (s, m) → n ≤ m ∧ (n = m → ∃ b lo, x.μ id = some (b, lo) ∧ lo ≤ j ∧ v = if s = 0 ∧ m = 1 then .map (some b) else .pointer (some ⟨b, (j - lo) * s + off, none⟩))

inductive VR (x : Ctx) : C → Value → Prop
  | d (d : D) (v : Value) (h : DR x.w x.F d v) : VR x (.d d) v
  | nils : VR x .nils (.slice none 0 0)
  | own (id off len n : Nat) (v : Value) (h : OwnR x id off len n v) : VR x (.own id off len n) v
  | ptr (id j off n : Nat) (v : Value) (h : PtrR x id j off n v) : VR x (.ptr id j off n) v
  | pf (cells : List D) (off b o : Nat) (hF : cells ≠ [] → x.F b) (hc : ∀ k d, cells[k]? = some d → ∃ u, x.w.cell? ⟨b, o + k, none⟩ = some u ∧ DR x.w x.F d u) :
      VR x (.pf cells off) (.pointer (some ⟨b, o + off, none⟩))
  | pa (rows : List (List D)) (b o s : Nat) (hF : rows ≠ [] → x.F b) (hs : ∀ r ∈ rows, r.length = s)
      (hc : ∀ i r c d, rows[i]? = some r → r[c]? = some d → ∃ u, x.w.cell? ⟨b, o + (i * s + c), none⟩ = some u ∧ DR x.w x.F d u) :
      VR x (.pa rows) (.pointer (some ⟨b, o, none⟩))
  | clo (fn : Fn) (caps : List C) (vs : Array Value) (u : Nat → Value) (hl : vs.size = caps.length)
      (hu : ∀ (i : Nat) c, caps[i]? = some c → vs[i]? = some (u i)) (hv : ∀ (i : Nat) c, caps[i]? = some c → VR x c (u i)) : VR x (.clo fn caps) (.func fn #[] vs)
  | any (v : Value) (h : one v = true) : VR x .any v

def CsR (x : Ctx) (cs : List C) (vs : Array Value) : Prop := vs.size = cs.length ∧ ∀ (i : Nat) c, cs[i]? = some c → ∃ u, vs[i]? = some u ∧ VR x c u

inductive VA (x : Ctx) : A → Value → Prop
  | c (c : C) (v : Value) (h : VR x c v) : VA x (.c c) v
  | agg (cs : List C) (vs : Array Value) (h : CsR x cs vs) : VA x (.agg cs) (.agg vs)
  | tup (l : List A) (vs : Array Value) (u : Nat → Value) (hl : vs.size = l.length)
      (hu : ∀ (i : Nat) a, l[i]? = some a → vs[i]? = some (u i)) (hv : ∀ (i : Nat) a, l[i]? = some a → VA x a (u i)) : VA x (.tup l) (.tuple vs)
  | und : VA x .und undef
  | any (v : Value) : VA x .any v

def TR (x : Ctx) (T : List A) (vs : Array Value) : Prop := vs.size = T.length ∧ ∀ (i : Nat) a, T[i]? = some a → ∃ u, vs[i]? = some u ∧ VA x a u

def BR (x : Ctx) (O : Nat → Prop) (id : Nat) : Blk → Prop
  | .box cs ty => ∃ b vs t, x.μ id = some (b, 0) ∧ O b ∧ x.w.heap[b]? = some (.cells vs (ty.getD t) (0, 0)) ∧ CsR x cs vs
  | .rows s rs ty => 0 < s ∧ (∀ r ∈ rs, r.length = s) ∧ ((x.μ id = none ∧ rs = []) ∨ ∃ b lo vs t, x.μ id = some (b, lo) ∧ O b ∧ x.w.heap[b]? = some (.cells vs (ty.getD t) (0, 0)) ∧
      lo ≤ rs.length ∧ (rs.length - lo) * s ≤ vs.size ∧ ∀ i r c d, lo ≤ i → rs[i]? = some r → r[c]? = some d → ∃ u, vs[(i - lo) * s + c]? = some u ∧ DR x.w x.F d u)
  | .mp es => ∃ b ents clock, x.μ id = some (b, 0) ∧ O b ∧ x.w.heap[b]? = some (.map ents clock) ∧ ents.toList.map (fun e => (e.key, e.val)) = es
  | .raw r => (∀ g lo, x.μ id = some (g, lo) → O g) ∧ r.R x.w x.F O (x.μ id)

def nOf (H : Heap) (id : Nat) : Option (Nat × Nat) :=
  match H[id]? with
  | some (some (.box _ _)) => some (0, 0)
  | some (some (.rows s rs _)) => some (s, rs.length)
  | some (some (.mp _)) => some (0, 1)
  | some (some (.raw _)) => some (0, 0)
  | _ => none

structure Ctx.Le (x y : Ctx) : Prop where
  F : ∀ k, x.F k → y.F k ∧ y.w.heap[k]? = x.w.heap[k]?
  size : x.w.heap.size ≤ y.w.heap.size
  L : x.L ≤ y.L
  N : ∀ id, id < x.L → ∀ s m, y.N id = some (s, m) → ∃ n, x.N id = some (s, n) ∧ n ≤ m ∧ (n = m → y.μ id = x.μ id ∧ ∀ b lo, x.μ id = some (b, lo) → bsz y.w b = bsz x.w b)

structure Base where
  x : Ctx
  A : Nat → Prop

structure Rel (B : Base) (x : Ctx) (O : Nat → Nat → Prop) (H : Heap) : Prop where
  hL : x.L = H.length
  hN : ∀ id, x.N id = nOf H id
  le : B.x.Le x
  os : x.w.os = B.x.w.os
  tape : x.w.tape = B.x.w.tape
  output : x.w.output = B.x.w.output
  keep : ∀ k, k < B.x.w.heap.size → ¬ B.A k → x.w.heap[k]? = B.x.w.heap[k]?
  own : ∀ id k, O id k → k < x.w.heap.size ∧ (B.A k ∨ B.x.w.heap.size ≤ k)
  fr : ∀ k, x.F k → k < x.w.heap.size ∧ (B.x.F k ∨ B.A k ∨ B.x.w.heap.size ≤ k)
  disj : ∀ id id' k, O id k → O id' k → id = id'
  nof : ∀ id k, O id k → ¬ x.F k
  blk : ∀ id b, H[id]? = some (some b) → BR x (O id) id b

def SRel (B : Base) (T : List A) (H : Heap) (vs : Array Value) (w : World) : Prop := ∃ x O, x.w = w ∧ Rel B x O H ∧ TR x T vs


theorem cell_of {w w' : World} {k : Nat} (h : w'.heap[k]? = w.heap[k]?) (o : Nat) : w'.cell? ⟨k, o, none⟩ = w.cell? ⟨k, o, none⟩ := by
  unfold World.cell?; simp only [h]

theorem DR.mono {w w' : World} {F F' : Nat → Prop} (hF : ∀ k, F k → F' k ∧ w'.heap[k]? = w.heap[k]?) {d : D} {v : Value} (h : DR w F d v) : DR w' F' d v := by
  induction h with
  | sc v h => exact .sc v h
  | nil a cap => exact .nil a cap
  | fz rs b o cap s u hcap hs hb hc hd ih => exact .fz rs b o cap s u hcap hs (hF b hb).1 (fun i r c x hi hx => (cell_of (hF b hb).2 _).trans (hc i r c x hi hx)) ih

theorem DR.one {w : World} {F : Nat → Prop} {d : D} {v : Value} (h : DR w F d v) : Eng.one v = true := by
  cases h <;> first | assumption | rfl

theorem VR.one {x : Ctx} {c : C} {v : Value} (h : VR x c v) : Eng.one v = true := by
  cases h with
  | d d v h => exact h.one
  | own id off len n v h => exact h.1
  | ptr id j off n v h => exact h.1
  | any v h => exact h
  | _ => rfl

theorem OwnR.mono {x y : Ctx} (h : x.Le y) {id off len n : Nat} {v : Value} (hv : OwnR x id off len n v) : OwnR y id off len n v := by
  obtain ⟨h1, hL, h2⟩ := hv
  refine ⟨h1, Nat.lt_of_lt_of_le hL h.L, fun s m hm => ?_⟩
  obtain ⟨n', hn', hle, heq⟩ := h.N id hL s m hm
  obtain ⟨hnn, hrest⟩ := h2 s n' hn'
  refine ⟨Nat.le_trans hnn hle, fun e => ?_⟩
  have e1 : n = n' := by omega
  have e2 : n' = m := by omega
  obtain ⟨hμ, hs⟩ := heq e2
  have h3 := hrest e1
  rw [hμ]
  split at h3
  · exact h3
  · rename_i b lo hb
    obtain ⟨a, cap, sz, q1, q2, q3, q4, q5, q6, q7, q8⟩ := h3
    exact ⟨a, cap, sz, q1, q2, q3, q4, q5, q6, (hs b lo hb).trans q7, q8⟩

theorem PtrR.mono {x y : Ctx} (h : x.Le y) {id j off n : Nat} {v : Value} (hv : PtrR x id j off n v) : PtrR y id j off n v := by
  obtain ⟨h1, hL, h2⟩ := hv
  refine ⟨h1, Nat.lt_of_lt_of_le hL h.L, fun s m hm => ?_⟩
  obtain ⟨n', hn', hle, heq⟩ := h.N id hL s m hm
  obtain ⟨hnn, hrest⟩ := h2 s n' hn'
  refine ⟨Nat.le_trans hnn hle, fun e => ?_⟩
  obtain ⟨b, lo, q1, q2, q3⟩ := hrest (by omega)
  obtain rfl : n' = m := by omega
  exact ⟨b, lo, ((heq rfl).1).trans q1, q2, q3⟩

theorem VR.mono {x y : Ctx} (h : x.Le y) {c : C} {v : Value} (hv : VR x c v) : VR y c v := by
  induction hv with
  | d d v hd => exact .d d v (hd.mono h.F)
  | nils => exact .nils
  | own id off len n v hv => exact .own _ _ _ _ _ (hv.mono h)
  | ptr id j off n v hv => exact .ptr _ _ _ _ _ (hv.mono h)
  | pf cells off b o hF hc =>
    refine .pf cells off b o (fun hn => (h.F b (hF hn)).1) (fun k d hk => ?_)
    obtain ⟨u, hu, hd⟩ := hc k d hk
    exact ⟨u, (cell_of (h.F b (hF (by rintro rfl; simp at hk))).2 _).trans hu, hd.mono h.F⟩
  | pa rows b o s hF hs hc =>
    refine .pa rows b o s (fun hn => (h.F b (hF hn)).1) hs (fun i r c d hi hd => ?_)
    obtain ⟨u, hu, hd⟩ := hc i r c d hi hd
    exact ⟨u, (cell_of (h.F b (hF (by rintro rfl; simp at hi))).2 _).trans hu, hd.mono h.F⟩
  | clo fn caps vs u hl hu _ ih => exact .clo fn caps vs u hl hu ih
  | any v hv => exact .any v hv

theorem CsR.mono {x y : Ctx} (h : x.Le y) {cs : List C} {vs : Array Value} (hv : CsR x cs vs) : CsR y cs vs :=
  ⟨hv.1, fun i c hc => let ⟨u, h1, h2⟩ := hv.2 i c hc; ⟨u, h1, h2.mono h⟩⟩

theorem VA.mono {x y : Ctx} (h : x.Le y) {a : A} {v : Value} (hv : VA x a v) : VA y a v := by
  induction hv with
  | c c v hv => exact .c c v (hv.mono h)
  | agg cs vs hv => exact .agg cs vs (hv.mono h)
  | tup l vs u hl hu _ ih => exact .tup l vs u hl hu ih
  | und => exact .und
  | any v => exact .any v

theorem TR.mono {x y : Ctx} (h : x.Le y) {T : List A} {vs : Array Value} (hv : TR x T vs) : TR y T vs :=
  ⟨hv.1, fun i c hc => let ⟨u, h1, h2⟩ := hv.2 i c hc; ⟨u, h1, h2.mono h⟩⟩

theorem Ctx.Le.refl (x : Ctx) : x.Le x := ⟨fun _ h => ⟨h, rfl⟩, Nat.le_refl _, Nat.le_refl _, fun id _ s m h => ⟨m, h, Nat.le_refl _, fun _ => ⟨rfl, fun _ _ _ => rfl⟩⟩⟩

theorem Ctx.Le.trans {x y z : Ctx} (h : x.Le y) (k : y.Le z) : x.Le z := by
  refine ⟨fun b hb => ?_, Nat.le_trans h.size k.size, Nat.le_trans h.L k.L, fun id hid s m hm => ?_⟩
  · obtain ⟨h1, h2⟩ := h.F b hb
    obtain ⟨h3, h4⟩ := k.F b h1
    exact ⟨h3, h4.trans h2⟩
  · obtain ⟨n, hn, hle, heq⟩ := k.N id (Nat.lt_of_lt_of_le hid h.L) s m hm
    obtain ⟨n', hn', hle', heq'⟩ := h.N id hid s n hn
    refine ⟨n', hn', Nat.le_trans hle' hle, fun e => ?_⟩
    obtain ⟨q1, q2⟩ := heq (by omega)
    obtain ⟨q3, q4⟩ := heq' (by omega)
    exact ⟨q1.trans q3, fun b lo hb => (q2 b lo (q3.trans hb)).trans (q4 b lo hb)⟩

end Go.Eng
namespace Go.Eng
open Go.RowKit
set_option linter.unusedVariables false
set_option linter.unusedSimpArgs false

def allOne : List Value → Bool
  | [] => true
  | v :: l => one v && allOne l

def noRef : C → Bool
  | .d _ => true
  | .pf _ _ => true
  | .pa _ => true
  | .any => true
  | _ => false

def EqS (P : Program) (t : TypeId) (n : Nat) : Prop := P.eqGuardType P.depth t = false ∧ ∀ (xs ys : Array Value) (k : Nat → IntKind) (f g : Nat → Int) (b : Bool), xs.size = n → ys.size = n →
  (∀ i, i < n → xs[i]? = some (.int (k i) (f i)) ∧ ys[i]? = some (.int (k i) (g i))) → (b = true ↔ ∀ i, i < n → f i = g i) → ∀ w, (Op.equalIn 10000 t (.agg xs) (.agg ys)).run P w = .ok b w

structure Env where
  P : Program
  und : TypeId → Option TypeDesc
  inf : TypeId → Option (Nat × Nat × Value)
  glob : Nat → C
  hund : ∀ t d, und t = some d → P.underlying t = some d
  hinf : ∀ t s b z, inf t = some (s, b, z) → ∃ i, P.info? t = some i ∧ i.size = s ∧ i.bytes = b ∧ i.zero = some z
  hz : ∀ t s b z, inf t = some (s, b, z) → z.cells.size = s ∧ allOne z.cells.toList = true
  hfl : ∀ t fs, und t = some (.struct fs) → ∀ f ∈ fs, (P.info? f.type).isSome = true
  hgl : ∀ g, noRef (glob g) = true
  hmix : P.follows .mixedOrders = true
  ty : TypeId → Option TypeId := fun _ => none
  hty : ∀ t t', ty t = some t' → t' = t := by intro t t' h; cases h
  seq : TypeId → Option Nat := fun _ => none
  nx : TypeId → Option Nat := fun _ => none
  hseq : ∀ t n, seq t = some n → EqS P t n := by intro t n h; cases h

def Base.ok (B : Base) (E : Env) : Prop := ∀ g, VR B.x (E.glob g) (.pointer (some ⟨g, 0, none⟩))

def gT : List A → Nat → A
  | [], _ => .any
  | a :: _, 0 => a
  | _ :: l, n + 1 => gT l n

def pT : List A → Nat → A → List A
  | [], _, _ => []
  | _ :: l, 0, x => x :: l
  | a :: l, n + 1, x => a :: pT l n x

def putT (T : List A) : Option Nat → A → List A
  | none, _ => T
  | some d, v => pT T d v

def cvC : Value → C
  | .slice none 0 0 => .nils
  | v => .d (.sc v)

def cvA : Value → A
  | .agg vs => if allOne vs.toList then .agg (vs.toList.map cvC) else .any
  | .tuple _ => .any
  | v => .c (cvC v)

def ev (E : Env) (T : List A) : Operand → A
  | .tmp t => gT T t
  | .const v => cvA v
  | .global g => .c (E.glob g)
  | .func f => .c (.clo (.func f) [])

theorem gT_eq : ∀ (T : List A) (i : Nat), gT T i = (T[i]?).getD .any
  | [], _ => by simp [gT]
  | a :: l, 0 => by simp [gT]
  | a :: l, n + 1 => by simp [gT, gT_eq l n]

theorem pT_length : ∀ (T : List A) (i : Nat) (v : A), (pT T i v).length = T.length
  | [], _, _ => rfl
  | a :: l, 0, _ => rfl
  | a :: l, n + 1, v => by simp [pT, pT_length l n v]

theorem pT_eq : ∀ (T : List A) (i : Nat) (v : A), pT T i v = T.set i v
  | [], _, _ => by simp [pT]
  | a :: l, 0, _ => by simp [pT]
  | a :: l, n + 1, v => by simp [pT, pT_eq l n v]

theorem allOne_mem : ∀ {l : List Value}, allOne l = true → ∀ v ∈ l, one v = true
  | [], _, v, h => by simp at h
  | a :: l, h, v, hv => by
    simp only [allOne, Bool.and_eq_true] at h
    rcases List.mem_cons.1 hv with rfl | hv
    · exact h.1
    · exact allOne_mem h.2 v hv

theorem VR.cv (x : Ctx) {v : Value} (h : Eng.one v = true) : VR x (cvC v) v := by
  unfold cvC
  split
  · exact .nils
  · exact .d _ _ (.sc _ h)

theorem VA.cv (x : Ctx) (v : Value) : VA x (cvA v) v := by
  unfold cvA
  split
  · rename_i vs
    split
    · rename_i h
      refine .agg _ _ ⟨by simp, fun i c hc => ?_⟩
      simp only [List.getElem?_map, Option.map_eq_some_iff] at hc
      obtain ⟨u, hu, rfl⟩ := hc
      exact ⟨u, by simpa using hu, VR.cv x (allOne_mem h u (List.mem_of_getElem? hu))⟩
    · exact .any _
  · exact .any _
  · rename_i h1 h2
    refine .c _ _ (VR.cv x ?_)
    cases v <;> first | rfl | (exact absurd rfl (h1 _)) | (exact absurd rfl (h2 _))

theorem TR.get {x : Ctx} {T : List A} {vs : Array Value} (h : TR x T vs) (t : Nat) : VA x (gT T t) (vs.getD t undef) := by
  rw [gT_eq]
  cases hT : T[t]? with
  | none => exact .any _
  | some a =>
    obtain ⟨u, hu, hv⟩ := h.2 t a hT
    simp [Array.getD_eq_getD_getElem?, hu, hv]

theorem TR.eval {E : Env} {x : Ctx} {T : List A} {a : Act} (h : TR x T a.tmps) (hg : ∀ g, VR x (E.glob g) (.pointer (some ⟨g, 0, none⟩))) (o : Operand) : VA x (ev E T o) (a.eval o) := by
  cases o with
  | tmp t => exact h.get t
  | const v => exact VA.cv x v
  | global g => exact .c _ _ (hg g)
  | func f => exact .c _ _ (.clo _ [] #[] (fun _ => undef) rfl (fun i c hc => by simp at hc) (fun i c hc => by simp at hc))

theorem TR.put {x : Ctx} {T : List A} {a : Act} (h : TR x T a.tmps) (dst : Option Tmp) {v : A} {u : Value} (hv : VA x v u) : TR x (putT T dst v) (a.put dst u).tmps := by
  cases dst with
  | none => exact h
  | some d =>
    refine ⟨by simp [putT, Act.put, pT_length, h.1], fun i b hb => ?_⟩
    simp only [putT, pT_eq, List.getElem?_set] at hb
    simp only [Act.put, Array.getElem?_setIfInBounds]
    have hsz := h.1
    split at hb
    · rename_i e
      split at hb
      · rename_i hlt
        cases hb
        simp [e, hsz, hlt]
        subst e
        simp [hlt, hv]
      · cases hb
    · rename_i e
      rw [if_neg e]
      exact h.2 i b hb

def Yld (E : Env) (T : List A) (H : Heap) (o : Oper) (v : A) (H' : Heap) : Prop :=
  ∀ B x O (a : Act), B.ok E → Rel B x O H → TR x T a.tmps → ∃ n v' w', (execOp a.eval o).run E.P x.w = .ok n w' ∧ (n = .value v' ∨ n = .skip ∧ v' = undef) ∧
    ∃ x' O', x'.w = w' ∧ x.Le x' ∧ Rel B x' O' H' ∧ VA x' v v'

theorem Rel.glob {E : Env} {B : Base} {x : Ctx} {O : Nat → Nat → Prop} {H : Heap} (hB : B.ok E) (h : Rel B x O H) (g : Nat) : VR x (E.glob g) (.pointer (some ⟨g, 0, none⟩)) := (hB g).mono h.le

theorem Yld.same {E : Env} {T : List A} {H : Heap} {o : Oper} {v : A}
    (h : ∀ B x O (a : Act), Rel B x O H → TR x T a.tmps → (∀ y, VA x (ev E T y) (a.eval y)) → ∃ v', (execOp a.eval o).run E.P x.w = .ok (.value v') x.w ∧ VA x v v') : Yld E T H o v H := by
  intro B x O a hB hR hT
  obtain ⟨v', h1, h2⟩ := h B x O a hR hT (fun y => hT.eval (fun g => hR.glob hB g) y)
  exact ⟨_, v', x.w, h1, .inl rfl, x, O, rfl, .refl x, hR, h2⟩


def sv : A → Option Value
  | .c (.d (.sc v)) => some v
  | _ => none

theorem sv_eq {x : Ctx} {a : A} {v u : Value} (h : sv a = some v) (ha : VA x a u) : u = v ∧ one v = true := by
  unfold sv at h
  split at h
  · cases h
    cases ha with
    | c _ _ h => cases h with | d _ _ h => cases h with | sc _ h => exact ⟨rfl, h⟩
  · cases h

def sc (v : Value) : A := .c (.d (.sc v))
theorem VA.sc (x : Ctx) {v : Value} (h : one v = true) : VA x (sc v) v := .c _ _ (.d _ _ (.sc _ h))

def bl (s : ByteArray) : List UInt8 := s.data.toList
def st (l : List UInt8) : ByteArray := ⟨l.toArray⟩

def bin (op : BinOp) : Value → Value → Option Value
  | .int k a, .int k' b => if k = k' then
      match op with
      | .add => some (.int k (k.wrap (a + b)))
      | .sub => some (.int k (k.wrap (a - b)))
      | .mul => some (.int k (k.wrap (a * b)))
      | .quo => if b = 0 then none else some (.int k (k.wrap (a.tdiv b)))
      | .rem => if b = 0 then none else some (.int k (a.tmod b))
      | .eql => some (.bool (a == b))
      | .neq => some (.bool (a != b))
      | .lss => some (.bool (decide (a < b)))
      | .leq => some (.bool (decide (a ≤ b)))
      | .gtr => some (.bool (decide (a > b)))
      | .geq => some (.bool (decide (a ≥ b)))
      | _ => none
    else none
  | .string a, .string b =>
      match op with
      | .add => if (bl a).length + (bl b).length ≤ 9223372036854775807 then some (.string (st (bl a ++ bl b))) else none
      | .eql => some (.bool (bl a == bl b))
      | .neq => some (.bool (!(bl a == bl b)))
      | _ => none
  | _, _ => none

theorem toList_bl (s : ByteArray) : s.toList = bl s := by
  have key : ∀ (n i : Nat) (r : List UInt8), s.size - i = n → ByteArray.toList.loop s i r = r.reverse ++ (s.data.toList.drop i) := by
    intro n
    induction n with
    | zero =>
      intro i r h
      unfold ByteArray.toList.loop
      have h1 : ¬ i < s.size := by omega
      have h2 : s.data.toList.length ≤ i := by simp only [Array.length_toList]; have : s.data.size = s.size := rfl; omega
      simp [h1, List.drop_eq_nil_of_le h2]
    | succ n ih =>
      intro i r h
      have h1 : i < s.size := by omega
      have hs : s.data.size = s.size := rfl
      unfold ByteArray.toList.loop
      rw [if_pos h1, ih (i + 1) _ (by omega)]
      have h2 : i < s.data.toList.length := by simp only [Array.length_toList]; omega
      rw [List.drop_eq_getElem_cons h2]
      have h3 : s.get! i = s.data.toList[i] := by
        simp only [ByteArray.get!, Array.getElem_toList]
        exact getElem!_pos s.data i (by omega)
      simp [h3]
  have := key s.size 0 [] (by omega)
  simpa [ByteArray.toList, bl] using this

theorem size_bl (s : ByteArray) : s.size = (bl s).length := by simp [bl]
theorem st_bl (s : ByteArray) : st (bl s) = s := by simp [st, bl]
theorem bl_st (l : List UInt8) : bl (st l) = l := by simp [st, bl]
theorem append_st (a b : ByteArray) : a ++ b = st (bl a ++ bl b) := by
  apply ByteArray.ext
  simp [st, bl]

theorem bin_ok {E : Env} {op : BinOp} {xt : TypeId} {x y : Operand} {a b r : Value} (w : World) (h : bin op a b = some r) :
    (do eqGuard op xt x y a b; binOp op xt a b).run E.P w = .ok r w ∧ one r = true := by
  unfold bin at h
  split at h
  · split at h
    · rename_i hk
      subst hk
      have hg : ∀ k a b, eqGuard op xt x y (.int k a) (.int k b) = pure () := by intro k a b; simp [eqGuard]
      split at h <;> first | (cases h; done) | (simp only [Option.some.injEq] at h; subst h; exact ⟨by simp [hg, binOp, Op.intArith, Op.intCmp, Sem.run, go_sem], rfl⟩) | skip
      all_goals
        split at h
        · cases h
        · rename_i hb
          simp only [Option.some.injEq] at h
          subst h
          exact ⟨by simp [hg, binOp, Op.intDiv, hb], rfl⟩
    · cases h
  · rename_i a b
    have hg : eqGuard op xt x y (.string a) (.string b) = pure () := by simp [eqGuard]
    split at h
    · split at h
      · rename_i hle
        simp only [Option.some.injEq] at h
        subst h
        refine ⟨?_, rfl⟩
        have : ¬ (((a.size + b.size : Nat) : Int) > IntKind.i64.max) := by
          rw [size_bl, size_bl]; simp [IntKind.max, IntKind.signed, IntKind.bits]; omega
        simp only [hg, binOp, Op.stringOp, append_st, if_neg this]
        simp [go_sem]
      · cases h
    · simp only [Option.some.injEq] at h
      subst h
      exact ⟨by simp [hg, binOp, Op.stringOp, toList_bl, Sem.run, go_sem], rfl⟩
    · simp only [Option.some.injEq] at h
      subst h
      exact ⟨by simp [hg, binOp, Op.stringOp, toList_bl, Sem.run, go_sem], rfl⟩
    · cases h
  · cases h

end Go.Eng
namespace Go.Eng
open Go.RowKit
set_option linter.unusedVariables false
set_option linter.unusedSimpArgs false

def hG : Heap → Nat → Option Blk
  | [], _ => none
  | b :: _, 0 => b
  | _ :: l, n + 1 => hG l n

def hP : Heap → Nat → Option Blk → Heap
  | [], _, _ => []
  | _ :: l, 0, b => b :: l
  | a :: l, n + 1, b => a :: hP l n b

theorem hG_eq : ∀ (H : Heap) (i : Nat), hG H i = (H[i]?).join
  | [], _ => by simp [hG]
  | a :: l, 0 => by simp [hG]
  | a :: l, n + 1 => by simp [hG, hG_eq l n]

theorem hP_eq : ∀ (H : Heap) (i : Nat) (b : Option Blk), hP H i b = H.set i b
  | [], _, _ => by simp [hP]
  | a :: l, 0, _ => by simp [hP]
  | a :: l, n + 1, b => by simp [hP, hP_eq l n]

theorem hG_some {H : Heap} {i : Nat} {b : Blk} (h : hG H i = some b) : H[i]? = some (some b) := by
  rw [hG_eq] at h
  cases hi : H[i]? with
  | none => simp [hi] at h
  | some o => simp [hi] at h; rw [h]


def Env.size (E : Env) (t : TypeId) : Option Nat := (E.inf t).map (·.1)
def Env.agg (E : Env) (t : TypeId) : Option Bool := match E.und t with | some (.struct _) => some true | some (.array ..) => some true | some _ => some false | none => none
def Env.fld (E : Env) (t : TypeId) (f : Nat) : Option (Nat × TypeId) := match E.und t with | some (.struct fs) => (fs[f]?).map fun d => (d.offset, d.type) | _ => none
def Env.elt (E : Env) (t : TypeId) : Option TypeId := match E.und t with | some (.slice e) => some e | _ => none
def Env.arr (E : Env) (t : TypeId) : Option (Nat × TypeId) := match E.und t with | some (.array n e) => some (n, e) | _ => none
def Env.kind (E : Env) (t : TypeId) : Option IntKind := match E.und t with | some (.int k) => some k | _ => none
def Env.str (E : Env) (t : TypeId) : Bool := match E.und t with | some .string => true | _ => false
def Env.bln (E : Env) (t : TypeId) : Bool := match E.und t with | some .bool => true | _ => false
def Env.ptr (E : Env) (t : TypeId) : Bool := match E.und t with | some (.pointer _) => true | _ => false

section
variable {E : Env}
theorem Env.size_run {t : TypeId} {n : Nat} (h : E.size t = some n) (w : World) : (sizeOf t).run E.P w = .ok n w := by
  unfold Env.size at h
  simp only [Option.map_eq_some_iff] at h
  obtain ⟨⟨s, b, z⟩, h1, rfl⟩ := h
  obtain ⟨i, hi, hs, _, _⟩ := E.hinf _ _ _ _ h1
  simp [sizeOf, typeInfo, hi, hs]
theorem und_run {t : TypeId} {d : TypeDesc} (h : E.und t = some d) (w : World) : (underlying t).run E.P w = .ok d w := run_underlying (E.hund _ _ h) w
theorem Env.agg_run {t : TypeId} {b : Bool} (h : E.agg t = some b) (w : World) : (isAgg t).run E.P w = .ok b w := by
  unfold Env.agg at h
  split at h <;> simp only [Option.some.injEq, reduceCtorEq] at h <;> rename_i hu <;> try subst h
  · simp [isAgg, und_run hu]
  · simp [isAgg, und_run hu]
  · simp only [isAgg, Sem.run_bind, und_run hu, Result.andThen_ok]
    simp
end


def cutC : Nat → Nat → List C → Option (List C)
  | 0, 0, _ => some []
  | 0, n + 1, c :: l => match cutC 0 n l with | some r => some (c :: r) | none => none
  | o + 1, n, _ :: l => cutC o n l
  | _, _, _ => none

theorem cutC_get : ∀ {o n : Nat} {l r : List C}, cutC o n l = some r → r.length = n ∧ o + n ≤ l.length ∧ ∀ i, i < n → r[i]? = l[o + i]?
  | 0, 0, l, r, h => by simp [cutC] at h; subst h; simp
  | 0, n + 1, [], r, h => by simp [cutC] at h
  | 0, n + 1, c :: l, r, h => by
    simp only [cutC] at h
    split at h
    · rename_i r' h'
      cases h
      obtain ⟨h1, h2, h3⟩ := cutC_get h'
      refine ⟨by simp [h1], by simp; omega, fun i hi => ?_⟩
      cases i with
      | zero => simp
      | succ i => have := h3 i (by omega); simpa [Nat.add_comm, Nat.add_left_comm] using this
    · cases h
  | o + 1, n, [], r, h => by simp [cutC] at h
  | o + 1, n, c :: l, r, h => by
    simp only [cutC] at h
    obtain ⟨h1, h2, h3⟩ := cutC_get h
    refine ⟨h1, by simp; omega, fun i hi => ?_⟩
    rw [h3 i hi, show o + 1 + i = (o + i) + 1 by omega, List.getElem?_cons_succ]

def partC (b : Bool) (n o : Nat) (l : List C) : Option A :=
  if b then match cutC o n l with | some r => some (.agg r) | none => none
  else match cutC o 1 l with | some [c] => some (.c c) | _ => none

theorem partC_run {E : Env} {x : Ctx} {t : TypeId} {b : Bool} {n o : Nat} {cs : List C} {vs : Array Value} {v : A} (hb : E.agg t = some b) (hn : E.size t = some n) (h : partC b n o cs = some v)
    (hv : CsR x cs vs) (w : World) : ∃ u, (part t vs o).run E.P w = .ok u w ∧ VA x v u := by
  unfold partC at h
  split at h
  · rename_i hb'
    subst hb'
    split at h
    · rename_i r hr
      cases h
      obtain ⟨h1, h2, h3⟩ := cutC_get hr
      refine ⟨.agg (vs.extract o (o + n)), by simp [part, Env.agg_run hb, Env.size_run hn], .agg _ _ ⟨by simp [h1, hv.1]; omega, fun i c hc => ?_⟩⟩
      have hi : i < n := by have := (List.getElem?_eq_some_iff.1 hc).1; omega
      rw [h3 i hi] at hc
      obtain ⟨u, hu, hr⟩ := hv.2 _ _ hc
      refine ⟨u, ?_, hr⟩
      have hlt : o + i < vs.size := (Array.getElem?_eq_some_iff.1 hu).1
      simp only [Array.getElem?_extract]
      rw [if_pos (by omega)]
      exact hu
    · cases h
  · rename_i hb'
    simp only [Bool.not_eq_true] at hb'
    subst hb'
    split at h
    · rename_i c hr
      cases h
      obtain ⟨h1, h2, h3⟩ := cutC_get hr
      have hc := h3 0 (by omega)
      simp only [List.getElem?_cons_zero, Nat.add_zero] at hc
      obtain ⟨u, hu, hr⟩ := hv.2 _ _ hc.symm
      exact ⟨u, by simp [part, Env.agg_run hb, hu], .c _ _ hr⟩
    · cases h



def datas (l : List D) : List C := l.map .d

def rowsAt (rs : List (List D)) (i : Nat) : List D := rs.getD i []

def seenAt (H : Heap) : A → Option (List C × Nat)
  | .c (.ptr id j off n) => match hG H id with
    | some (.box cs _) => if j = 0 ∧ n = 0 then some (cs, off) else none
    | some (.rows s rs _) => if n = rs.length ∧ j < rs.length then some (datas (rowsAt rs j), off) else none
    | _ => none
  | .c (.pf cs off) => some (datas cs, off)
  | _ => none

theorem CsR.get {x : Ctx} {cs : List C} {vs : Array Value} (h : CsR x cs vs) {i : Nat} (hi : i < cs.length) : ∃ u, vs[i]? = some u ∧ VR x cs[i] u := by
  obtain ⟨u, h1, h2⟩ := h.2 i cs[i] (List.getElem?_eq_getElem hi)
  exact ⟨u, h1, h2⟩

theorem seenAt_ok {B : Base} {x : Ctx} {O : Nat → Nat → Prop} {H : Heap} (hR : Rel B x O H) {a : A} {v : Value} (ha : VA x a v) {cs : List C} {off : Nat} (h : seenAt H a = some (cs, off)) :
    ∃ b o, v = .pointer (some ⟨b, o + off, none⟩) ∧ ∀ i c, cs[i]? = some c → ∃ u, x.w.cell? ⟨b, o + i, none⟩ = some u ∧ VR x c u := by
  unfold seenAt at h
  split at h
  · rename_i id j o' n
    cases ha with
    | c _ _ ha => cases ha with | ptr _ _ _ _ _ ha =>
    obtain ⟨_, hL, ha⟩ := ha
    split at h
    · rename_i cs' hb
      split at h
      · rename_i hj
        obtain ⟨rfl, rfl⟩ := hj
        simp only [Option.some.injEq, Prod.mk.injEq] at h
        obtain ⟨rfl, rfl⟩ := h
        have hb' := hG_some hb
        obtain ⟨_, h2⟩ := ha 0 0 (by rw [hR.hN]; simp [nOf, hb'])
        obtain ⟨b, lo, hμ, hlo, hv⟩ := h2 rfl
        rw [if_neg (by omega)] at hv
        subst hv
        obtain ⟨b', vs, t, hμ', _, hh, hcs⟩ := hR.blk _ _ hb'
        rw [hμ'] at hμ
        cases hμ
        refine ⟨b, 0, by simp, fun i c hc => ?_⟩
        obtain ⟨u, hu, hv⟩ := hcs.2 i c hc
        refine ⟨u, ?_, hv⟩
        simp only [World.cell?, hh]
        simpa using hu
      · cases h
    · rename_i s rs tyB hb
      split at h
      · rename_i hj
        obtain ⟨rfl, hj⟩ := hj
        simp only [Option.some.injEq, Prod.mk.injEq] at h
        obtain ⟨rfl, rfl⟩ := h
        have hb' := hG_some hb
        obtain ⟨_, h2⟩ := ha s rs.length (by rw [hR.hN]; simp [nOf, hb'])
        obtain ⟨b, lo, hμ, hlo, hv⟩ := h2 rfl
        obtain ⟨hs, hrs, hbk⟩ := hR.blk _ _ hb'
        rw [if_neg (by omega)] at hv
        subst hv
        rcases hbk with ⟨hn, _⟩ | ⟨b', lo', vs, t, hμ', _, hh, hl, _, hcs⟩
        · rw [hn] at hμ; cases hμ
        · rw [hμ'] at hμ
          cases hμ
          refine ⟨b, (j - lo) * s, rfl, fun i c hc => ?_⟩
          simp only [datas, rowsAt, List.getElem?_map, Option.map_eq_some_iff] at hc
          obtain ⟨d, hd, rfl⟩ := hc
          have hrow : rs[j]? = some (rs.getD j []) := by simp [List.getD, List.getElem?_eq_getElem hj]
          obtain ⟨u, hu, hv⟩ := hcs j _ i d hlo hrow hd
          refine ⟨u, ?_, .d _ _ hv⟩
          simp only [World.cell?, hh]
          simpa using hu
      · cases h
    · cases h
  · rename_i cells o'
    simp only [Option.some.injEq, Prod.mk.injEq] at h
    obtain ⟨rfl, rfl⟩ := h
    cases ha with
    | c _ _ ha => cases ha with | pf _ _ b o hF hc =>
    refine ⟨b, o, rfl, fun i c hi => ?_⟩
    simp only [datas, List.getElem?_map, Option.map_eq_some_iff] at hi
    obtain ⟨d, hd, rfl⟩ := hi
    obtain ⟨u, hu, hv⟩ := hc i d hd
    exact ⟨u, hu, .d _ _ hv⟩
  · cases h

def aLoad (E : Env) (H : Heap) (t : TypeId) (a : A) : Option A :=
  match seenAt H a with
  | some (cs, off) => match E.agg t, E.size t with
    | some b, some n => partC b n off cs
    | _, _ => none
  | none => none

theorem aLoad_ok {E : Env} {B : Base} {x : Ctx} {O : Nat → Nat → Prop} {H : Heap} (hR : Rel B x O H) {t : TypeId} {a v : A} {u : Value} (ha : VA x a u) (h : aLoad E H t a = some v) :
    ∃ r, (Instr.loadAt t u).run E.P x.w = .ok r x.w ∧ VA x v r := by
  unfold aLoad at h
  split at h
  · rename_i cs off hs
    obtain ⟨b, o, rfl, hc⟩ := seenAt_ok hR ha hs
    split at h
    · rename_i g n hg hn
      have hadd : ∀ i, (⟨b, o + off, none⟩ : Addr).add i = ⟨b, o + off + i, none⟩ := fun i => by unfold Addr.add; split <;> simp_all
      unfold partC at h
      split at h
      · rename_i hb
        subst hb
        split at h
        · rename_i r hr
          cases h
          obtain ⟨h1, h2, h3⟩ := cutC_get hr
          have key : ∀ i, i < n → ∃ u, x.w.cell? ⟨b, o + off + i, none⟩ = some u ∧ ∀ c, r[i]? = some c → VR x c u := fun i hi => by
            have hlt : off + i < cs.length := by omega
            obtain ⟨u, hu, hv⟩ := hc (off + i) _ (List.getElem?_eq_getElem hlt)
            refine ⟨u, by rw [Nat.add_assoc]; exact hu, fun c hc' => ?_⟩
            rw [h3 i hi, List.getElem?_eq_getElem hlt] at hc'
            cases hc'
            exact hv
          let f : Nat → Value := fun i => (x.w.cell? ⟨b, o + off + i, none⟩).getD undef
          have hf : ∀ i, i < n → x.w.cell? ((⟨b, o + off, none⟩ : Addr).add i) = some (f i) := fun i hi => by
            obtain ⟨u, hu, _⟩ := key i hi
            rw [hadd, hu]; simp [f, hu]
          refine ⟨.agg ((List.range n).map f).toArray, ?_, .agg _ _ ⟨by simp [h1], fun i c hi => ?_⟩⟩
          · simp [Instr.loadAt, Instr.sureAddr, loadVar, Env.agg_run hg, Env.size_run hn, run_loadCells x.w _ n f hf]
          · have hi' : i < n := by have := (List.getElem?_eq_some_iff.1 hi).1; omega
            obtain ⟨u, hu, hv⟩ := key i hi'
            exact ⟨u, by simp [hi', f, hu], hv c hi⟩
        · cases h
      · rename_i hb
        simp only [Bool.not_eq_true] at hb
        subst hb
        split at h
        · rename_i c hr
          cases h
          obtain ⟨h1, h2, h3⟩ := cutC_get hr
          have hc' := h3 0 (by omega)
          simp only [List.getElem?_cons_zero, Nat.add_zero] at hc'
          obtain ⟨u, hu, hv⟩ := hc off c hc'.symm
          exact ⟨u, by simp [Instr.loadAt, Instr.sureAddr, loadVar, Env.agg_run hg, hu], .c _ _ hv⟩
        · cases h
    · cases h
  · cases h

end Go.Eng
namespace Go.Eng
open Go.RowKit
set_option linter.unusedVariables false
set_option linter.unusedSimpArgs false

def selA : Bool → A → A → A
  | true, a, _ => a
  | false, _, b => b

def ofBool : A → Option Bool
  | .c (.d (.sc (.bool b))) => some b
  | _ => none

theorem ofBool_eq {x : Ctx} {a : A} {b : Bool} {u : Value} (h : ofBool a = some b) (ha : VA x a u) : u = .bool b := by
  unfold ofBool at h
  split at h
  · cases h
    cases ha with | c _ _ h => cases h with | d _ _ h => cases h with | sc _ h => rfl
  · cases h

def aField (E : Env) (t : TypeId) (f : Nat) : A → Option A
  | .agg cs => match E.fld t f with
    | some (off, ft) => match E.agg ft, E.size ft with
      | some b, some n => partC b n off cs
      | _, _ => none
    | none => none
  | _ => none

def aExtract (i : Nat) : A → Option A
  | .tup l => l[i]?
  | _ => none

def livePtr (H : Heap) (id n : Nat) : Bool := match hG H id with | some (.box _ _) => n == 0 | some (.rows _ rs _) => n == rs.length | _ => false
def live (H : Heap) : A → Bool
  | .c (.ptr id _ _ n) => livePtr H id n
  | .c (.pf _ _) => true
  | .c (.pa _) => true
  | _ => false

def aFieldAddr (E : Env) (H : Heap) (t : TypeId) (f : Nat) (a : A) : Option A :=
  match E.fld t f with
  | some (off, ft) => match E.size ft with
    | some (_ + 1) => match a with
      | .c (.ptr id j o n) => if livePtr H id n = true then some (.c (.ptr id j (o + off) n)) else none
      | .c (.pf cs o) => some (.c (.pf cs (o + off)))
      | _ => none
    | _ => none
  | none => none

def aIndexAddr (E : Env) (H : Heap) (t : TypeId) (a i : A) : Option A :=
  match sv i with
  | some (.int _ i) => match a with
    | .c (.d (.fz rs)) => match E.elt t with
      | some e => if 0 ≤ i ∧ i.toNat < rs.length ∧ E.size e = some (rowsAt rs i.toNat).length then some (.c (.pf (rowsAt rs i.toNat) 0)) else none
      | none => none
    | .c (.own id off len n) => match hG H id, E.elt t with
      | some (.rows s rs _), some e => if 0 ≤ i ∧ i.toNat < len ∧ n = rs.length ∧ E.size e = some s then some (.c (.ptr id (off + i.toNat) 0 n)) else none
      | _, _ => none
    | .c (.pa rs) => match E.arr t with
      | some (m, e) => if 0 ≤ i ∧ i.toNat < rs.length ∧ m = rs.length ∧ E.size e = some (rowsAt rs i.toNat).length then some (.c (.pf (rowsAt rs i.toNat) 0)) else none
      | none => none
    | .c (.ptr id j o n) => match E.arr t with
      | some (m, e) => match E.size e with
        | some s => if livePtr H id n = true ∧ 0 ≤ i ∧ i.toNat < m then some (.c (.ptr id j (o + i.toNat * s) n)) else none
        | none => none
      | none => none
    | _ => none
  | _ => none

def byteAt (l : List UInt8) (i : Nat) : Int := ((l.getD i 0).toNat : Int)

def aIndex (E : Env) (t : TypeId) (a i : A) : Option A :=
  match sv i, sv a with
  | some (.int _ i), some (.string s) => if E.str t = true ∧ 0 ≤ i ∧ i.toNat < (bl s).length then some (sc (.int .u8 (byteAt (bl s) i.toNat))) else none
  | some (.int _ i), none => match a, E.arr t with
    | .agg cs, some (n, e) => match E.agg e, E.size e with
      | some b, some s => if 0 ≤ i ∧ i.toNat < n then partC b s (i.toNat * s) cs else none
      | _, _ => none
    | _, _ => none
  | _, _ => none

def lenA (H : Heap) : A → Option Nat
  | .c (.d (.fz rs)) => some rs.length
  | .c .nils => some 0
  | .c (.d (.sc (.slice _ n _))) => some n
  | .c (.own id off len n) => match hG H id with | some (.rows s rs _) => if n = rs.length then some len else none | _ => none
  | _ => none

def aLen (E : Env) (H : Heap) (t : TypeId) (a : A) : Option A :=
  match E.und t with
  | some (.slice _) => match lenA H a with | some n => some (sc (.int .i64 n)) | none => none
  | some .string => match sv a with | some (.string s) => some (sc (.int .i64 (bl s).length)) | _ => none
  | some (.array n _) => some (sc (.int .i64 n))
  | _ => none

def aUn (op : UnOp) (a : A) : Option A :=
  match op, sv a with
  | .not, some (.bool b) => some (sc (.bool (!b)))
  | .neg, some (.int k n) => some (sc (.int k (k.wrap (0 - n))))
  | _, _ => none

def aConv (E : Env) (src dst : TypeId) (a : A) : Option A :=
  match E.und src, E.und dst, sv a with
  | some (.int _), some (.int k), some (.int _ n) => some (sc (.int k (k.wrap n)))
  | some (.int _), some .string, some (.int _ n) => some (sc (.string (Utf8.encode n)))
  | some .string, some .string, some (.string s) => some (sc (.string s))
  | _, _, _ => none

def aNil (H : Heap) (a : A) : Option A :=
  match a with
  | .c (.clo (.func f) cs) => some (.c (.clo (.func f) cs))
  | a => if live H a = true then some a else none

def eqlOf (op : BinOp) (b : Bool) : Option A :=
  match op with
  | .eql => some (sc (.bool b))
  | .neq => some (sc (.bool (!b)))
  | _ => none

def eqInts : List C → List C → Option Bool
  | [], [] => some true
  | .d (.sc (.int k a)) :: l, .d (.sc (.int k' b)) :: r => if k = k' then match eqInts l r with | some e => some (a == b && e) | none => none else none
  | _, _ => none

def eqAgg (op : BinOp) (n : Nat) (l r : List C) : Option Bool → Option A
  | some b => if l.length = n ∧ r.length = n then eqlOf op b else none
  | none => none

def aEqS (E : Env) (op : BinOp) (t : TypeId) : A → A → Option A
  | .agg l, .agg r => match E.seq t with | some n => eqAgg op n l r (eqInts l r) | none => none
  | _, _ => none

def aBin (E : Env) (H : Heap) (op : BinOp) (t : TypeId) (a b : A) : Option A :=
  match sv a, sv b with
  | some (.bool p), some (.bool q) => if E.bln t = true then eqlOf op (p == q) else none
  | some (.pointer none), some (.pointer none) => if E.ptr t = true then eqlOf op true else none
  | some u, some v => (bin op u v).map sc
  | none, some (.pointer none) => if E.ptr t = true ∧ live H a = true then eqlOf op false else none
  | some (.pointer none), none => if E.ptr t = true ∧ live H b = true then eqlOf op false else none
  | none, none => aEqS E op t a b
  | _, _ => none

end Go.Eng
namespace Go.Eng
open Go.RowKit
set_option linter.unusedVariables false
set_option linter.unusedSimpArgs false

section
variable {E : Env} {B : Base} {x : Ctx} {O : Nat → Nat → Prop} {H : Heap}

theorem ptr_ok (hR : Rel B x O H) {id j off n : Nat} {v : Value} (ha : PtrR x id j off n v) (h : livePtr H id n = true) :
    ∃ s b lo, x.N id = some (s, n) ∧ x.μ id = some (b, lo) ∧ lo ≤ j ∧ v = .pointer (some ⟨b, (j - lo) * s + off, none⟩) ∧ ¬ (s = 0 ∧ n = 1) := by
  have hp : ∃ s, x.N id = some (s, n) ∧ ¬ (s = 0 ∧ n = 1) := by
    unfold livePtr at h
    split at h
    · rename_i cs hb
      have := beq_iff_eq.1 h
      exact ⟨0, by rw [hR.hN]; simp [nOf, hG_some hb]; omega, by omega⟩
    · rename_i s rs tyB hb
      have := (hR.blk _ _ (hG_some hb)).1
      exact ⟨s, by rw [hR.hN]; simp [nOf, hG_some hb]; exact (beq_iff_eq.1 h).symm, by omega⟩
    · cases h
  obtain ⟨s, hN, hne⟩ := hp
  obtain ⟨b, lo, h1, h2, h3⟩ := (ha.2.2 s n hN).2 rfl
  rw [if_neg hne] at h3
  exact ⟨s, b, lo, hN, h1, h2, h3, hne⟩

theorem live_ok (hR : Rel B x O H) {a : A} {v : Value} (ha : VA x a v) (h : live H a = true) : ∃ p, v = .pointer (some p) := by
  unfold live at h
  split at h
  · rename_i id j off n
    cases ha with | c _ _ ha => cases ha with | ptr _ _ _ _ _ ha =>
    obtain ⟨s, b, lo, _, _, _, rfl, _⟩ := ptr_ok hR ha h
    exact ⟨_, rfl⟩
  · cases ha with | c _ _ ha => cases ha with | pf _ _ b o _ _ => exact ⟨_, rfl⟩
  · cases ha with | c _ _ ha => cases ha with | pa _ b o _ _ _ => exact ⟨_, rfl⟩
  · cases h

theorem aField_ok {t : TypeId} {f : Nat} {a v : A} {u : Value} (ha : VA x a u) (h : aField E t f a = some v) (w : World) :
    ∃ r, (Instr.field t u f).run E.P w = .ok r w ∧ VA x v r := by
  unfold aField at h
  split at h
  · rename_i cs
    split at h
    · rename_i off ft hf
      split at h
      · rename_i b n hb hn
        cases ha with | agg _ vs hv =>
        obtain ⟨r, hr, hvr⟩ := partC_run hb hn h hv w
        refine ⟨r, ?_, hvr⟩
        unfold Env.fld at hf
        split at hf
        · rename_i fs hu
          simp only [Option.map_eq_some_iff, Prod.mk.injEq] at hf
          obtain ⟨d, hd, rfl, rfl⟩ := hf
          simp [Instr.field, und_run hu, hd, asAgg, hr]
        · cases hf
      · cases h
    · cases h
  · cases h

theorem add_off (b o n : Nat) : (⟨b, o, none⟩ : Addr).add n = ⟨b, o + n, none⟩ := by unfold Addr.add; split <;> simp_all

theorem fieldAt_run {t : TypeId} {f off ft : Nat} {n : Nat} (hf : E.fld t f = some (off, ft)) (hn : E.size ft = some (n + 1)) (b o : Nat) (w : World) :
    (Instr.fieldAt t (.pointer (some ⟨b, o, none⟩)) f).run E.P w = .ok (.pointer (some ⟨b, o + off, none⟩)) w := by
  unfold Env.fld at hf
  split at hf
  · rename_i fs hu
    simp only [Option.map_eq_some_iff, Prod.mk.injEq] at hf
    obtain ⟨d, hd, rfl, rfl⟩ := hf
    simp [Instr.fieldAt, und_run hu, hd, Instr.sureAddr, fieldPlace, Env.size_run hn, add_off]
  · cases hf

theorem aFieldAddr_ok {t : TypeId} {f : Nat} {a v : A} {u : Value} (hR : Rel B x O H) (ha : VA x a u) (h : aFieldAddr E H t f a = some v) (w : World) :
    ∃ r, (Instr.fieldAt t u f).run E.P w = .ok r w ∧ VA x v r := by
  unfold aFieldAddr at h
  split at h
  · rename_i off ft hf
    split at h
    · rename_i n hn
      split at h
      · rename_i id j o m
        split at h
        · rename_i hl
          cases h
          cases ha with | c _ _ ha => cases ha with | ptr _ _ _ _ _ ha =>
          obtain ⟨s, b, lo, hN, hμ, hlo, rfl, hne⟩ := ptr_ok hR ha hl
          refine ⟨_, fieldAt_run hf hn _ _ w, .c _ _ (.ptr _ _ _ _ _ ⟨rfl, ha.2.1, fun s' m' hN' => ?_⟩)⟩
          rw [hN] at hN'
          cases hN'
          exact ⟨Nat.le_refl _, fun _ => ⟨b, lo, hμ, hlo, by rw [if_neg hne, Nat.add_assoc]⟩⟩
        · cases h
      · rename_i cs o
        cases h
        cases ha with | c _ _ ha => cases ha with | pf _ _ b o' hF hc =>
        refine ⟨_, fieldAt_run hf hn _ _ w, .c _ _ ?_⟩
        have := VR.pf (x := x) cs (o + off) b o' hF hc
        rwa [← Nat.add_assoc] at this
      · cases h
    · cases h
  · cases h

theorem aIndex_ok {t : TypeId} {a i v : A} {u k : Value} (ha : VA x a u) (hi : VA x i k) (h : aIndex E t a i = some v) (w : World) :
    ∃ r, (Instr.index t u k).run E.P w = .ok r w ∧ VA x v r := by
  unfold aIndex at h
  split at h
  · rename_i ik n s h1 h2
    obtain ⟨rfl, _⟩ := sv_eq h1 hi
    obtain ⟨rfl, _⟩ := sv_eq h2 ha
    split at h
    · rename_i hc
      obtain ⟨hs, h0, hlt⟩ := hc
      cases h
      refine ⟨_, ?_, VA.sc x rfl⟩
      have hu : E.und t = some .string := by
        unfold Env.str at hs
        split at hs
        · assumption
        · cases hs
      have hb : s[n.toNat]? = some ((bl s).getD n.toNat 0) := by
        have h3 : n.toNat < s.data.size := by simpa [bl] using hlt
        have h4 : n.toNat < s.size := h3
        simp [getElem?_pos, h4, bl, List.getD, h3]
        rfl
      simp only [Instr.index, Sem.run_bind, asIntOf, und_run hu, Result.andThen_ok, Sem.run_pure]
      simp [h0, hb, byteAt]
    · cases h
  · rename_i ik n h1 h2
    obtain ⟨rfl, _⟩ := sv_eq h1 hi
    split at h
    · rename_i cs m e ht
      split at h
      · rename_i b s hb hs
        split at h
        · rename_i hc
          obtain ⟨h0, hlt⟩ := hc
          cases ha with | agg _ vs hv =>
          obtain ⟨r, h3, h4⟩ := partC_run hb hs h hv w
          refine ⟨r, ?_, h4⟩
          have hu : E.und t = some (.array m e) := by
            unfold Env.arr at ht
            split at ht
            · cases ht; assumption
            · cases ht
          simp only [Instr.index, Sem.run_bind, asIntOf, und_run hu, Result.andThen_ok, Sem.run_pure]
          rw [if_pos ⟨h0, by omega⟩]
          simp only [Sem.run_bind, Env.size_run hs, Result.andThen_ok, h3]
        · cases h
      · cases h
    · cases h
  · cases h

theorem lenA_ok (hR : Rel B x O H) {a : A} {v : Value} {n : Nat} (ha : VA x a v) (h : lenA H a = some n) : ∃ p cap, v = .slice p n cap := by
  unfold lenA at h
  split at h
  · cases h
    cases ha with | c _ _ ha => cases ha with | d _ _ ha => cases ha with
    | nil a cap => exact ⟨_, _, rfl⟩
    | fz => exact ⟨_, _, rfl⟩
  · cases h
    cases ha with | c _ _ ha => cases ha with | nils => exact ⟨_, _, rfl⟩
  · cases h
    cases ha with | c _ _ ha => cases ha with | d _ _ ha => cases ha with | sc => exact ⟨_, _, rfl⟩
  · rename_i id off len m
    cases ha with | c _ _ ha => cases ha with | own _ _ _ _ _ ha =>
    split at h
    · rename_i s rs tyB hb
      split at h
      · rename_i hm
        cases h
        obtain ⟨_, hc⟩ := ha.2.2 s rs.length (by rw [hR.hN]; simp [nOf, hG_some hb])
        have := hc hm
        split at this
        · obtain ⟨rfl, rfl, rfl, _⟩ := this; exact ⟨_, _, rfl⟩
        · obtain ⟨p, cap, sz, rfl, _⟩ := this; exact ⟨_, _, rfl⟩
      · cases h
    · cases h
  · cases h

theorem aLen_ok (hR : Rel B x O H) {t ty : TypeId} {a v : A} {u : Value} (ha : VA x a u) (h : aLen E H t a = some v) (w : World) :
    ∃ r, (Builtin.len_ #[t] ty #[u]).run E.P w = .ok r w ∧ VA x v r := by
  unfold aLen at h
  split at h
  · rename_i e hu
    split at h
    · rename_i n hn
      cases h
      obtain ⟨p, cap, rfl⟩ := lenA_ok hR ha hn
      exact ⟨_, by simp [Builtin.len_, und_run hu, goInt, size_bl], VA.sc x rfl⟩
    · cases h
  · rename_i hu
    split at h
    · rename_i s hs
      cases h
      obtain ⟨rfl, _⟩ := sv_eq hs ha
      exact ⟨_, by simp [Builtin.len_, und_run hu, goInt, size_bl], VA.sc x rfl⟩
    · cases h
  · rename_i n e hu
    cases h
    exact ⟨_, by simp [Builtin.len_, und_run hu, goInt, size_bl], VA.sc x rfl⟩
  · cases h

theorem aUn_ok {op : UnOp} {a v : A} {u : Value} (ha : VA x a u) (h : aUn op a = some v) (w : World) : ∃ r, (Op.unary op u).run E.P w = .ok r w ∧ VA x v r := by
  unfold aUn at h
  split at h
  · rename_i b hs
    cases h
    obtain ⟨rfl, _⟩ := sv_eq hs ha
    exact ⟨_, by simp [Op.unary], VA.sc x rfl⟩
  · rename_i k n hs
    cases h
    obtain ⟨rfl, _⟩ := sv_eq hs ha
    exact ⟨_, by simp [Op.unary, Op.intArith], VA.sc x rfl⟩
  · cases h

theorem aConv_ok {src dst : TypeId} {a v : A} {u : Value} (ha : VA x a u) (h : aConv E src dst a = some v) (w : World) : ∃ r, (convert src dst u).run E.P w = .ok r w ∧ VA x v r := by
  unfold aConv at h
  split at h <;> rename_i h1 h2 h3 <;> first | (cases h; done) | skip
  all_goals
    cases h
    obtain ⟨rfl, _⟩ := sv_eq h3 ha
    exact ⟨_, by simp [convert, und_run h1, und_run h2, Conv.intToInt, Conv.intToString], VA.sc x rfl⟩

theorem equal_bool {t : TypeId} (h : E.und t = some .bool) (a b : Bool) (w : World) : (Op.equal t (.bool a) (.bool b)).run E.P w = .ok (a == b) w := by
  show (Op.equalIn (9999 + 1) t _ _).run E.P w = _
  unfold Op.equalIn
  simp only [Sem.run_bind, und_run h, Result.andThen_ok, Sem.run_pure]
theorem equal_nil {t e : TypeId} (h : E.und t = some (.pointer e)) (b : Option Addr) (w : World) : (Op.equal t (.pointer none) (.pointer b)).run E.P w = .ok b.isNone w := by
  show (Op.equalIn (9999 + 1) t _ _).run E.P w = _
  unfold Op.equalIn
  simp only [Sem.run_bind, und_run h, Result.andThen_ok, Sem.run_pure]
theorem equal_nil' {t e : TypeId} (h : E.und t = some (.pointer e)) (b : Addr) (w : World) : (Op.equal t (.pointer (some b)) (.pointer none)).run E.P w = .ok false w := by
  show (Op.equalIn (9999 + 1) t _ _).run E.P w = _
  unfold Op.equalIn
  simp only [Sem.run_bind, und_run h, Result.andThen_ok, Sem.run_pure]

theorem eqlOf_ok {op : BinOp} {t : TypeId} {b : Bool} {v : A} {p q : Value} {w : World} (h : eqlOf op b = some v) (he : (Op.equal t p q).run E.P w = .ok b w)
    (h1 : binOp .eql t p q = (do pure (.bool (← Op.equal t p q)))) (h2 : binOp .neq t p q = (do pure (.bool (!(← Op.equal t p q))))) :
    ∃ r, (binOp op t p q).run E.P w = .ok r w ∧ VA x v r := by
  unfold eqlOf at h
  split at h
  · cases h; exact ⟨_, by rw [h1]; simp [he], VA.sc x rfl⟩
  · cases h; exact ⟨_, by rw [h2]; simp [he], VA.sc x rfl⟩
  · cases h

theorem eqInts_all : ∀ {l r : List C} {b : Bool}, eqInts l r = some b → r.length = l.length ∧ (∀ i, i < l.length → ∃ k a a', l[i]? = some (.d (.sc (.int k a))) ∧ r[i]? = some (.d (.sc (.int k a')))) ∧ (b = true ↔ l = r)
  | [], [], b, h => by cases h; simp
  | [], _ :: _, b, h => by simp [eqInts] at h
  | c :: l, r, b, h => by
    unfold eqInts at h
    split at h
    · exact absurd ‹c :: l = []› (by simp)
    · rename_i k a l' k' b' r' h1
      cases h1
      split at h
      · rename_i hk
        subst hk
        split at h
        · rename_i e he
          cases h
          obtain ⟨h2, h3, h4⟩ := eqInts_all he
          refine ⟨by simp [h2], fun i hi => ?_, ?_⟩
          · cases i with
            | zero => exact ⟨k, a, b', rfl, rfl⟩
            | succ i => simpa using h3 i (by simpa using hi)
          · simp [h4]
        · cases h
      · cases h
    · cases h
def cKind : Option C → IntKind | some (.d (.sc (.int k _))) => k | _ => .i64
def cInt : Option C → Int | some (.d (.sc (.int _ a))) => a | _ => 0

theorem aEqS_ok {op : BinOp} {t : TypeId} {a b v : A} {p q : Value} {X Y : Operand} (ha : VA x a p) (hb : VA x b q) (h : aEqS E op t a b = some v) (w : World) :
    ∃ r, (do eqGuard op t X Y p q; binOp op t p q).run E.P w = .ok r w ∧ VA x v r := by
  unfold aEqS at h
  split at h
  · rename_i l r
    split at h
    · rename_i n hs
      unfold eqAgg at h
      split at h
      · rename_i bb he
        split at h
        · rename_i hl
          obtain ⟨h2, h3⟩ := E.hseq t n hs
          cases ha with | agg _ xs hxs =>
          cases hb with | agg _ ys hys =>
          obtain ⟨_, g1, g2⟩ := eqInts_all he
          have vi : ∀ {c : C} {u : Value} {k a}, VR x c u → c = .d (.sc (.int k a)) → u = .int k a := fun hv e => by subst e; cases hv with | d _ _ h => cases h; rfl
          have hp : ∀ i, i < n → xs[i]? = some (.int (cKind l[i]?) (cInt l[i]?)) ∧ ys[i]? = some (.int (cKind l[i]?) (cInt r[i]?)) := fun i hi => by
            obtain ⟨k, a, a', e1, e2⟩ := g1 i (by omega)
            obtain ⟨u, hu, hv⟩ := hxs.2 i _ e1
            obtain ⟨u', hu', hv'⟩ := hys.2 i _ e2
            rw [e1, e2, hu, hu', vi hv rfl, vi hv' rfl]
            exact ⟨rfl, rfl⟩
          have keyq : (Op.equalIn 10000 t (.agg xs) (.agg ys)).run E.P w = .ok bb w := h3 xs ys _ _ _ bb (by have := hxs.1; have := hl.1; omega) (by have := hys.1; have := hl.2; omega) hp (g2.trans ⟨fun e i hi => by rw [e], fun e => by
            apply List.ext_getElem?
            intro i
            by_cases hi : i < n
            · obtain ⟨k, a, a', e1, e2⟩ := g1 i (by omega)
              have := e i hi
              rw [e1, e2] at this
              simp only [cInt] at this
              rw [e1, e2, this]
            · rw [List.getElem?_eq_none (by omega), List.getElem?_eq_none (by omega)]⟩) w
          have hg := run_eqGuard_agg (P := E.P) w op t X Y xs ys h2
          unfold eqlOf at h
          split at h
          · cases h
            exact ⟨.bool bb, by simp only [Sem.run_bind, hg, Result.andThen_ok, run_eql_struct, keyq], VA.sc x rfl⟩
          · cases h
            exact ⟨.bool (!bb), by simp only [Sem.run_bind, hg, Result.andThen_ok, run_neq_struct, keyq], VA.sc x rfl⟩
          · cases h
        · cases h
      · cases h
    · cases h
  · cases h

theorem aBin_ok (hR : Rel B x O H) {op : BinOp} {t : TypeId} {a b v : A} {p q : Value} {X Y : Operand} (ha : VA x a p) (hb : VA x b q) (h : aBin E H op t a b = some v) (w : World) :
    ∃ r, (do eqGuard op t X Y p q; binOp op t p q).run E.P w = .ok r w ∧ VA x v r := by
  have bl : ∀ {t}, E.bln t = true → E.und t = some .bool := fun h => by unfold Env.bln at h; split at h; assumption; cases h
  have pt : ∀ {t}, E.ptr t = true → ∃ e, E.und t = some (.pointer e) := fun h => by unfold Env.ptr at h; split at h; exact ⟨_, by assumption⟩; cases h
  unfold aBin at h
  split at h
  · rename_i s r h1 h2
    obtain ⟨rfl, _⟩ := sv_eq h1 ha
    obtain ⟨rfl, _⟩ := sv_eq h2 hb
    split at h
    · rename_i ht
      have hg : eqGuard op t X Y (.bool s) (.bool r) = pure () := by simp [eqGuard]
      simp only [hg, pure_bind]
      exact eqlOf_ok h (equal_bool (bl ht) _ _ w) (by simp only [binOp]) (by simp only [binOp])
    · cases h
  · rename_i h1 h2
    obtain ⟨rfl, _⟩ := sv_eq h1 ha
    obtain ⟨rfl, _⟩ := sv_eq h2 hb
    split at h
    · rename_i ht
      obtain ⟨e, ht⟩ := pt ht
      have hg : eqGuard op t X Y (.pointer none) (.pointer none) = pure () := by simp [eqGuard]
      simp only [hg, pure_bind]
      exact eqlOf_ok h (equal_nil ht _ w) (by simp only [binOp]) (by simp only [binOp])
    · cases h
  · rename_i s r _ _ h1 h2
    obtain ⟨rfl, _⟩ := sv_eq h1 ha
    obtain ⟨rfl, _⟩ := sv_eq h2 hb
    simp only [Option.map_eq_some_iff] at h
    obtain ⟨r, hr, rfl⟩ := h
    obtain ⟨h3, h4⟩ := bin_ok (E := E) (xt := t) (x := X) (y := Y) w hr
    exact ⟨r, h3, VA.sc x h4⟩
  · rename_i h1 h2
    obtain ⟨rfl, _⟩ := sv_eq h2 hb
    split at h
    · rename_i hc
      obtain ⟨e, ht⟩ := pt hc.1
      obtain ⟨z, rfl⟩ := live_ok hR ha hc.2
      · have hg : eqGuard op t X Y (.pointer (some z)) (.pointer none) = pure () := by simp [eqGuard]
        simp only [hg, pure_bind]
        exact eqlOf_ok h (equal_nil' ht _ w) (by simp only [binOp]) (by simp only [binOp])
    · cases h
  · rename_i h1 h2
    obtain ⟨rfl, _⟩ := sv_eq h1 ha
    split at h
    · rename_i hc
      obtain ⟨e, ht⟩ := pt hc.1
      obtain ⟨z, rfl⟩ := live_ok hR hb hc.2
      · have hg : eqGuard op t X Y (.pointer none) (.pointer (some z)) = pure () := by simp [eqGuard]
        simp only [hg, pure_bind]
        exact eqlOf_ok h (equal_nil ht _ w) (by simp only [binOp]) (by simp only [binOp])
    · cases h
  · exact aEqS_ok ha hb h w
  · cases h


theorem aNil_ok (hR : Rel B x O H) {a v : A} {y : Operand} {ρ : Operand → Value} {dst : Option Tmp} {type : TypeId} {pos : String} {after : Array Edge} {guard : Option (Nat × Bool)}
    (ha : VA x a (ρ y)) (h : aNil H a = some v) (w : World) : ∃ r, (execOp ρ ⟨dst, .nilCheck y, type, pos, after, guard⟩).run E.P w = .ok (.value r) w ∧ VA x v r := by
  unfold aNil at h
  split at h
  · cases h
    generalize hy : ρ y = u at ha
    cases ha with | c _ _ ha => cases ha with | clo fn caps vs u hl hu hv =>
    exact ⟨_, by simp [execOp, hy], .c _ _ (.clo _ _ _ u hl hu hv)⟩
  · split at h
    · rename_i hl
      cases h
      obtain ⟨p, hp⟩ := live_ok hR ha hl
      refine ⟨.pointer (some p), by simp [execOp, hp], hp ▸ ha⟩
    · cases h

theorem rowsAt_get {rs : List (List D)} {i : Nat} (h : i < rs.length) : rs[i]? = some (rowsAt rs i) := by
  simp [rowsAt, List.getD, List.getElem?_eq_getElem h]

theorem aIndexAddr_ok (hR : Rel B x O H) {t : TypeId} {a i v : A} {u k : Value} (ha : VA x a u) (hi : VA x i k) (h : aIndexAddr E H t a i = some v) (w : World) :
    ∃ r, (Instr.indexAt t u k).run E.P w = .ok r w ∧ VA x v r := by
  have et : ∀ {t e}, E.elt t = some e → E.und t = some (.slice e) := fun h => by unfold Env.elt at h; split at h; (cases h; assumption); cases h
  have at' : ∀ {t m e}, E.arr t = some (m, e) → E.und t = some (.array m e) := fun h => by unfold Env.arr at h; split at h; (cases h; assumption); cases h
  unfold aIndexAddr at h
  split at h
  · rename_i ik n h1
    obtain ⟨rfl, _⟩ := sv_eq h1 hi
    split at h
    · rename_i rs
      split at h
      · rename_i e he
        split at h
        · rename_i hc
          obtain ⟨h0, hlt, hs⟩ := hc
          cases h
          cases ha with | c _ _ ha => cases ha with | d _ _ ha => cases ha with
          | nil a cap => simp at hlt
          | fz _ b o cap s uu hcap hss hF hcc hd =>
            have hn : (n.toNat : Int) = n := by omega
            have hlen : (rowsAt rs n.toNat).length = s := hss _ (List.mem_of_getElem? (rowsAt_get hlt))
            refine ⟨.pointer (some ⟨b, o + n.toNat * s, none⟩), ?_, .c _ _ ?_⟩
            · have h2 : 0 ≤ n ∧ n < (rs.length : Int) := by omega
              simp only [Instr.indexAt, Sem.run_bind, asIntOf, Sem.run_pure, Result.andThen_ok, und_run (et he)]
              simp [h2, Env.size_run hs, hlen, add_off]
            · refine .pf _ 0 b (o + n.toNat * s) (fun _ => hF) (fun c d hd' => ?_)
              exact ⟨uu n.toNat c, by have := hcc _ _ _ _ (rowsAt_get hlt) hd'; rwa [← Nat.add_assoc] at this, hd _ _ _ _ (rowsAt_get hlt) hd'⟩
        · cases h
      · cases h
    · rename_i id off len m
      split at h
      · rename_i s rs tyB e hb he
        split at h
        · rename_i hc
          obtain ⟨h0, hlt, hm, hs⟩ := hc
          cases h
          cases ha with | c _ _ ha => cases ha with | own _ _ _ _ _ ha =>
          have hN : x.N id = some (s, m) := by rw [hR.hN]; simp [nOf, hG_some hb, hm]
          have := (ha.2.2 s m hN).2 rfl
          split at this
          · obtain ⟨_, _, rfl, _⟩ := this; omega
          · rename_i b lo hμ
            obtain ⟨p, cap, sz, rfl, hp, hlo, h4, h5, h6, h7, h8⟩ := this
            have hp' : p = ⟨b, (off - lo) * s, none⟩ := hp.resolve_left (by omega)
            subst hp'
            refine ⟨.pointer (some ⟨b, (off + n.toNat - lo) * s + 0, none⟩), ?_, .c _ _ (.ptr _ _ _ _ _ ⟨rfl, ha.2.1, fun s' m' hN' => ?_⟩)⟩
            · have h2 : 0 ≤ n ∧ n < (len : Int) := by omega
              simp only [Instr.indexAt, Sem.run_bind, asIntOf, Sem.run_pure, Result.andThen_ok, und_run (et he)]
              have h9 : (off - lo) * s + n.toNat * s = (off + n.toNat - lo) * s := by rw [← Nat.add_mul]; congr 1; omega
              simp [h2, Env.size_run hs, add_off, h9]
            · rw [hN] at hN'
              cases hN'
              exact ⟨Nat.le_refl _, fun _ => ⟨b, lo, hμ, by omega, by have := (hR.blk _ _ (hG_some hb)).1; rw [if_neg (by omega)]⟩⟩
        · cases h
      · cases h
    · rename_i rs
      split at h
      · rename_i m e he
        split at h
        · rename_i hc
          obtain ⟨h0, hlt, hm, hs⟩ := hc
          cases h
          cases ha with | c _ _ ha => cases ha with | pa _ b o s hF hss hcc =>
          have hlen : (rowsAt rs n.toNat).length = s := hss _ (List.mem_of_getElem? (rowsAt_get hlt))
          refine ⟨.pointer (some ⟨b, o + n.toNat * s, none⟩), ?_, .c _ _ ?_⟩
          · have h2 : 0 ≤ n ∧ n < (m : Int) := by omega
            simp only [Instr.indexAt, Sem.run_bind, asIntOf, Sem.run_pure, Result.andThen_ok, und_run (at' he), Instr.sureAddr]
            simp [h2, Env.size_run hs, hlen, add_off]
          · refine .pf _ 0 b (o + n.toNat * s) (fun _ => hF (by rintro rfl; simp at hlt)) (fun c d hd' => ?_)
            obtain ⟨uu, h3, h4⟩ := hcc _ _ _ _ (rowsAt_get hlt) hd'
            exact ⟨uu, by rwa [← Nat.add_assoc] at h3, h4⟩
        · cases h
      · cases h
    · rename_i id j o nn
      split at h
      · rename_i m e he
        split at h
        · rename_i s hs
          split at h
          · rename_i hc
            obtain ⟨hl, h0, hlt⟩ := hc
            cases h
            cases ha with | c _ _ ha => cases ha with | ptr _ _ _ _ _ ha =>
            obtain ⟨s', b, lo, hN, hμ, hlo, rfl, hne⟩ := ptr_ok hR ha hl
            have hn : (n.toNat : Int) = n := by omega
            refine ⟨.pointer (some ⟨b, (j - lo) * s' + o + n.toNat * s, none⟩), ?_, .c _ _ (.ptr _ _ _ _ _ ⟨rfl, ha.2.1, fun s2 m2 hN' => ?_⟩)⟩
            · have h2 : 0 ≤ n ∧ n < (m : Int) := by omega
              simp only [Instr.indexAt, Sem.run_bind, asIntOf, Sem.run_pure, Result.andThen_ok, und_run (at' he), Instr.sureAddr]
              simp [h2, Env.size_run hs, add_off]
            · rw [hN] at hN'
              cases hN'
              exact ⟨Nat.le_refl _, fun _ => ⟨b, lo, hμ, hlo, by rw [if_neg hne, Nat.add_assoc]⟩⟩
          · cases h
        · cases h
      · cases h
    · cases h
  · cases h

end
end Go.Eng
namespace Go.Eng
open Go.RowKit
set_option linter.unusedVariables false
set_option linter.unusedSimpArgs false

def bd : Option A → Option (Option Nat)
  | none => some none
  | some a => match sv a with
    | some (.int _ i) => if 0 ≤ i then some (some i.toNat) else none
    | _ => none

def subL {α : Type} : Option Nat → Option Nat → List α → List α
  | none, none, l => l
  | some i, none, l => l.drop i
  | none, some k, l => l.take k
  | some i, some k, l => (l.take k).drop i

def hiOf (h : Option Nat) (n : Nat) : Nat := match h with | none => n | some k => k
def loOf (l : Option Nat) : Nat := match l with | none => 0 | some k => k

def aSlice (E : Env) (H : Heap) (t : TypeId) (a : A) (lo hi : Option A) : Option A :=
  match bd lo, bd hi with
  | some l, some h => match a with
    | .c (.d (.sc (.string s))) => if E.str t = true ∧ loOf l ≤ hiOf h (bl s).length ∧ hiOf h (bl s).length ≤ (bl s).length then some (sc (.string (st (subL l h (bl s))))) else none
    | .c (.d (.fz rs)) => match E.elt t with
      | some e => if loOf l ≤ hiOf h rs.length ∧ hiOf h rs.length ≤ rs.length ∧ E.size e = some (rowsAt rs 0).length then some (.c (.d (.fz (subL l h rs)))) else none
      | none => none
    | .c .nils => match E.elt t with
      | some e => if loOf l = 0 ∧ hiOf h 0 = 0 ∧ (E.size e).isSome = true then some (.c .nils) else none
      | none => none
    | .c (.own id off len n) => match hG H id, E.elt t with
      | some (.rows s rs _), some e => if loOf l ≤ hiOf h len ∧ hiOf h len ≤ len ∧ n = rs.length ∧ E.size e = some s then some (.c (.own id (off + loOf l) (hiOf h len - loOf l) n)) else none
      | _, _ => none
    | .c (.pa rs) => match E.arr t with
      | some (m, e) => if loOf l ≤ hiOf h rs.length ∧ hiOf h rs.length ≤ rs.length ∧ m = rs.length ∧ E.size e = some (rowsAt rs 0).length then some (.c (.d (.fz (subL l h rs)))) else none
      | none => none
    | _ => none
  | _, _ => none

theorem subL_length {α : Type} {l h : Option Nat} {L : List α} (h1 : loOf l ≤ hiOf h L.length) (h2 : hiOf h L.length ≤ L.length) : (subL l h L).length = hiOf h L.length - loOf l := by
  cases l <;> cases h <;> simp_all [subL, loOf, hiOf] <;> omega

theorem subL_get {α : Type} {l h : Option Nat} {L : List α} (h1 : loOf l ≤ hiOf h L.length) (h2 : hiOf h L.length ≤ L.length) {i : Nat} {r : α} (hi : (subL l h L)[i]? = some r) : L[loOf l + i]? = some r := by
  have hlt := (List.getElem?_eq_some_iff.1 hi).1
  rw [subL_length h1 h2] at hlt
  rw [← hi]
  cases l <;> cases h <;> simp only [subL, loOf, hiOf] at * <;> simp only [List.getElem?_drop, List.getElem?_take, Nat.zero_add, Nat.sub_zero] at *
  · rw [if_pos (by omega)]
  · rw [if_pos (by omega)]

section
variable {E : Env} {B : Base} {x : Ctx} {O : Nat → Nat → Prop} {H : Heap}

def VO (x : Ctx) : Option A → Option Value → Prop
  | none, none => True
  | some a, some v => VA x a v
  | _, _ => False

theorem bd_ok {a : Option A} {v : Option Value} {r : Option Nat} (h : bd a = some r) (ha : VO x a v) :
    (r = none ∧ v = none) ∨ ∃ k n, r = some n ∧ v = some (.int k ((n : Nat) : Int)) := by
  cases a with
  | none =>
    cases h
    cases v
    · exact .inl ⟨rfl, rfl⟩
    · exact ha.elim
  | some a =>
    cases v with
    | none => exact ha.elim
    | some v =>
      simp only [bd] at h
      split at h
      · rename_i k i hs
        split at h
        · rename_i h0
          cases h
          obtain ⟨rfl, _⟩ := sv_eq hs ha
          exact .inr ⟨k, i.toNat, rfl, by rw [Int.toNat_of_nonneg h0]⟩
        · cases h
      · cases h

theorem bounds_run {P : Program} {b : Bool} {len cap : Nat} {lo hi : Option Value} {l h : Option Nat} (hl : (l = none ∧ lo = none) ∨ ∃ k n, l = some n ∧ lo = some (.int k (n : Int)))
    (hh : (h = none ∧ hi = none) ∨ ∃ k n, h = some n ∧ hi = some (.int k (n : Int))) (h1 : loOf l ≤ hiOf h len) (h2 : hiOf h len ≤ cap) (w : World) :
    (Instr.sliceBounds b len cap lo hi none).run P w = .ok (loOf l, hiOf h len, cap) w := by
  have sb : ∀ (k : IntKind) (n y : Nat) (c : BoundsCode), n ≤ y → (Instr.sliceBound (.int k (n : Int)) y c).run P w = .ok n w := fun k n y c h => by
    rw [run_sliceBound w k n y c (by omega) (by omega)]; simp
  rcases hl with ⟨rfl, rfl⟩ | ⟨k, n, rfl, rfl⟩ <;> rcases hh with ⟨rfl, rfl⟩ | ⟨k', n', rfl, rfl⟩ <;> simp only [loOf, hiOf] at * <;> simp [Instr.sliceBounds]
  · rw [sb _ _ _ _ h2]; simp
  · rw [sb _ _ _ _ h1]; simp
  · rw [sb _ _ _ _ h2]; simp [sb _ _ _ _ h1]

theorem aSlice_ok (hR : Rel B x O H) {t : TypeId} {a v : A} {lo hi : Option A} {u : Value} {lo' hi' : Option Value} (ha : VA x a u)
    (hlo : VO x lo lo') (hhi : VO x hi hi')
    (h : aSlice E H t a lo hi = some v) (w : World) : ∃ r, (Instr.sliceAt t u lo' hi' none).run E.P w = .ok r w ∧ VA x v r := by
  have et : ∀ {t e}, E.elt t = some e → E.und t = some (.slice e) := fun h => by unfold Env.elt at h; split at h; (cases h; assumption); cases h
  have at' : ∀ {t m e}, E.arr t = some (m, e) → E.und t = some (.array m e) := fun h => by unfold Env.arr at h; split at h; (cases h; assumption); cases h
  have stt : ∀ {t}, E.str t = true → E.und t = some .string := fun h => by unfold Env.str at h; split at h; assumption; cases h
  unfold aSlice at h
  split at h
  · rename_i l ho hl' hh'
    have hl := bd_ok hl' hlo
    have hh := bd_ok hh' hhi
    split at h
    · rename_i s
      split at h
      · rename_i hc
        obtain ⟨h0, h1, h2⟩ := hc
        cases h
        cases ha with | c _ _ ha => cases ha with | d _ _ ha => cases ha with | sc =>
        refine ⟨_, ?_, VA.sc x rfl⟩
        have hx : ∀ i k, s.extract i k = st (((bl s).take k).drop i) := fun i k => by
          apply ByteArray.ext
          apply Array.ext'
          simp [st, bl, ByteArray.data_extract, List.drop_take]
        simp only [Instr.sliceAt, Sem.run_bind, und_run (stt h0), Result.andThen_ok, Instr.slice]
        rw [← size_bl] at h1 h2
        have hb := bounds_run (P := E.P) (b := false) hl hh h1 h2 w
        rw [size_bl] at hb
        simp only [Option.isSome_none, Bool.false_eq_true, if_false, Sem.run_bind, Sem.run_pure, Result.andThen_ok, size_bl, hb, hx]
        congr 4
        cases l <;> cases ho <;> simp [subL, loOf, hiOf]
      · cases h
    · rename_i rs
      split at h
      · rename_i e he
        split at h
        · rename_i hc
          obtain ⟨h1, h2, h3⟩ := hc
          cases h
          cases ha with | c _ _ ha => cases ha with | d _ _ ha =>
          cases ha with
          | nil a cap =>
            have e1 : loOf l = 0 := by simp at h2; simp [h2] at h1; omega
            have e2 : hiOf ho 0 = 0 := by simpa using h2
            have hb := bounds_run (P := E.P) (b := true) (len := 0) (cap := cap) hl hh (by omega) (by omega) w
            refine ⟨_, by simp only [Instr.sliceAt, Sem.run_bind, und_run (et he), Result.andThen_ok, Instr.slice, hb, Env.size_run h3, Sem.run_pure]; rfl, ?_⟩
            have e3 : subL l ho ([] : List (List D)) = [] := by cases l <;> cases ho <;> simp [subL]
            rw [e3, e1, e2]
            exact .c _ _ (.d _ _ (.nil _ _))
          | fz _ b o cap s uu hcap hss hF hcc hd =>
            have hb := bounds_run (P := E.P) (b := true) (cap := cap) hl hh h1 (by omega) w
            refine ⟨_, by simp only [Instr.sliceAt, Sem.run_bind, und_run (et he), Result.andThen_ok, Instr.slice, hb, Env.size_run h3, Sem.run_pure]; rfl, ?_⟩
            refine .c _ _ (.d _ _ ?_)
            have hsl := subL_length h1 h2
            rw [← hsl]
            by_cases hne : (subL l ho rs).length = 0
            · rw [hne, List.length_eq_zero_iff.1 hne]
              exact .nil _ _
            · have hpos : 0 < rs.length := by omega
              have hs0 : (rowsAt rs 0).length = s := hss _ (List.mem_of_getElem? (rowsAt_get hpos))
              rw [if_neg (by omega)]
              simp only [Option.map_some, add_off, hs0]
              refine .fz _ b (o + loOf l * s) _ s (fun i c => uu (loOf l + i) c) (by omega) (fun r hr => ?_) hF (fun i r c d hi hx => ?_) (fun i r c d hi hx => ?_)
              · obtain ⟨i, hi⟩ := List.getElem?_of_mem hr
                exact hss _ (List.mem_of_getElem? (subL_get h1 h2 hi))
              · have := hcc _ _ _ _ (subL_get h1 h2 hi) hx
                rw [← this]
                congr 2
                rw [Nat.add_mul]; omega
              · exact hd _ _ _ _ (subL_get h1 h2 hi) hx
        · cases h
      · cases h
    · split at h
      · rename_i e he
        split at h
        · rename_i hc
          obtain ⟨h1, h2, h3⟩ := hc
          cases h
          cases ha with | c _ _ ha => cases ha with | nils =>
          obtain ⟨s, hs⟩ := Option.isSome_iff_exists.1 h3
          have hb := bounds_run (P := E.P) (b := true) (len := 0) (cap := 0) hl hh (by omega) (by omega) w
          refine ⟨_, by simp only [Instr.sliceAt, Sem.run_bind, und_run (et he), Result.andThen_ok, Instr.slice, hb, Env.size_run hs, Sem.run_pure]; rfl, ?_⟩
          simp only [h1, h2, if_true, Nat.sub_zero]
          exact .c _ _ .nils
        · cases h
      · cases h
    · rename_i id off len m
      split at h
      · rename_i s rs tyB e hb' he
        split at h
        · rename_i hc
          obtain ⟨h1, h2, h3, h4⟩ := hc
          cases h
          cases ha with | c _ _ ha => cases ha with | own _ _ _ _ _ ha =>
          have hN : x.N id = some (s, m) := by rw [hR.hN]; simp [nOf, hG_some hb', h3]
          have := (ha.2.2 s m hN).2 rfl
          split at this
          · rename_i hμ
            obtain ⟨rfl, rfl, rfl, rfl⟩ := this
            have hb := bounds_run (P := E.P) (b := true) (len := 0) (cap := 0) hl hh (by omega) (by omega) w
            refine ⟨_, by simp only [Instr.sliceAt, Sem.run_bind, und_run (et he), Result.andThen_ok, Instr.slice, hb, Env.size_run h4, Sem.run_pure]; rfl, .c _ _ (.own _ _ _ _ _ ⟨rfl, ha.2.1, fun s' m' hN' => ?_⟩)⟩
            rw [hN] at hN'
            cases hN'
            have e1 : hiOf ho 0 = 0 := by omega
            have e2 : loOf l = 0 := by omega
            refine ⟨Nat.le_refl _, fun _ => ?_⟩
            rw [hμ]
            simp [e1, e2]
          · rename_i b lo hμ
            obtain ⟨p, cap, sz, rfl, hp, hlo2, q4, q5, q6, q7, q8⟩ := this
            have hb := bounds_run (P := E.P) (b := true) (cap := cap) hl hh h1 (by omega) w
            refine ⟨_, by simp only [Instr.sliceAt, Sem.run_bind, und_run (et he), Result.andThen_ok, Instr.slice, hb, Env.size_run h4, Sem.run_pure]; rfl, .c _ _ (.own _ _ _ _ _ ⟨rfl, ha.2.1, fun s' m' hN' => ?_⟩)⟩
            rw [hN] at hN'
            cases hN'
            refine ⟨Nat.le_refl _, fun _ => ?_⟩
            rw [hμ]
            refine ⟨if cap = loOf l then p else p.add (loOf l * s), cap - loOf l, sz, ?_, ?_, by omega, by omega, by omega, by omega, q7, ?_⟩
            · split <;> simp
            · rcases hp with hp | hp
              · left; omega
              · by_cases e : cap = loOf l
                · left; omega
                · right
                  rw [if_neg e, hp, add_off]
                  congr 1
                  rw [← Nat.add_mul]; congr 1; omega
            · rw [show off + loOf l + (cap - loOf l) - lo = off + cap - lo by omega]; exact q8
        · cases h
      · cases h
    · rename_i rs
      split at h
      · rename_i m e he
        split at h
        · rename_i hc
          obtain ⟨h1, h2, h3, h4⟩ := hc
          cases h
          cases ha with | c _ _ ha => cases ha with | pa _ b o s hF hss hcc =>
          subst h3
          have hb := bounds_run (P := E.P) (b := false) (len := rs.length) (cap := rs.length) hl hh h1 h2 w
          refine ⟨_, by simp only [Instr.sliceAt, Sem.run_bind, und_run (at' he), Result.andThen_ok, Instr.sureAddr, hb, Env.size_run h4, Sem.run_pure]; rfl, .c _ _ (.d _ _ ?_)⟩
          have hsl := subL_length h1 h2
          rw [← hsl]
          by_cases hne : (subL l ho rs).length = 0
          · rw [hne, List.length_eq_zero_iff.1 hne]
            exact .nil _ _
          · have hpos : 0 < rs.length := by omega
            have hs0 : (rowsAt rs 0).length = s := hss _ (List.mem_of_getElem? (rowsAt_get hpos))
            rw [if_neg (by omega), add_off, hs0]
            have key : ∀ i r c d, (subL l ho rs)[i]? = some r → r[c]? = some d → ∃ uu, x.w.cell? ⟨b, o + loOf l * s + (i * s + c), none⟩ = some uu ∧ DR x.w x.F d uu := fun i r c d hi hd => by
              obtain ⟨uu, e1, e2⟩ := hcc _ _ _ _ (subL_get h1 h2 hi) hd
              refine ⟨uu, ?_, e2⟩
              rw [← e1]
              congr 2
              rw [Nat.add_mul]; omega
            refine .fz _ b (o + loOf l * s) _ s (fun i c => (x.w.cell? ⟨b, o + loOf l * s + (i * s + c), none⟩).getD undef) (by omega) (fun r hr => ?_) (hF (by rintro rfl; simp at hpos)) (fun i r c d hi hx => ?_) (fun i r c d hi hx => ?_)
            · obtain ⟨i, hi⟩ := List.getElem?_of_mem hr
              exact hss _ (List.mem_of_getElem? (subL_get h1 h2 hi))
            · obtain ⟨uu, e1, e2⟩ := key i r c d hi hx
              rw [e1]; rfl
            · obtain ⟨uu, e1, e2⟩ := key i r c d hi hx
              rw [e1]; exact e2
        · cases h
      · cases h
    · cases h
  · cases h

end
end Go.Eng
namespace Go.Eng
open Go.RowKit
set_option linter.unusedVariables false
set_option linter.unusedSimpArgs false

def capsOf : List A → Option (List C)
  | [] => some []
  | .c c :: l => match capsOf l with | some r => some (c :: r) | none => none
  | _ :: _ => none

def aMinMax (mx : Bool) : A → A → Option A := fun a b =>
  match sv a, sv b with
  | some (.int k p), some (.int k' q) => if k = k' then some (sc (.int k (if mx = true then (if q > p then q else p) else (if q < p then q else p)))) else none
  | _, _ => none

def aop1 (E : Env) (T : List A) (H : Heap) : Op → Option A
  | .move y | .assign y => some (ev E T y)
  | .pick c a b => match ofBool (ev E T c) with | some t => some (selA t (ev E T a) (ev E T b)) | none => none
  | .load t a => aLoad E H t (ev E T a)
  | .nilCheck y => aNil H (ev E T y)
  | .binOp op t y z _ => aBin E H op t (ev E T y) (ev E T z)
  | .unOp op _ y => aUn op (ev E T y)
  | .convert s d y => aConv E s d (ev E T y)
  | .makeFunc fn first caps => if first.toList.length = 0 then match capsOf (caps.toList.map (ev E T)) with | some r => some (.c (.clo fn r)) | none => none else none
  | .slice t y lo hi mx => match mx with | none => aSlice E H t (ev E T y) (lo.map (ev E T)) (hi.map (ev E T)) | some _ => none
  | .fieldAddr t y f => aFieldAddr E H t f (ev E T y)
  | .field t y f => aField E t f (ev E T y)
  | .indexAddr t y i => aIndexAddr E H t (ev E T y) (ev E T i)
  | .index t y i => aIndex E t (ev E T y) (ev E T i)
  | .extract y i => aExtract i (ev E T y)
  | .call c => match c.callee with
    | .builtin .len => match c.args.toList, c.argTypes.toList with | [y], [t] => aLen E H t (ev E T y) | _, _ => none
    | .builtin .max => match c.args.toList with | [y, z] => aMinMax true (ev E T y) (ev E T z) | _ => none
    | .builtin .min => match c.args.toList with | [y, z] => aMinMax false (ev E T y) (ev E T z) | _ => none
    | _ => none
  | _ => none

theorem VA.inv {x : Ctx} {c : C} {u : Value} (h : VA x (.c c) u) : VR x c u := by cases h; assumption

theorem capsOf_ok {E : Env} {x : Ctx} {T : List A} {a : Act} (he : ∀ y, VA x (ev E T y) (a.eval y)) : ∀ {l : List Operand} {r : List C}, capsOf (l.map (ev E T)) = some r →
    r.length = l.length ∧ ∀ (i : Nat) c, r[i]? = some c → ∃ y, l[i]? = some y ∧ VR x c (a.eval y)
  | [], r, h => by cases h; simp
  | y :: l, r, h => by
    simp only [List.map_cons] at h
    unfold capsOf at h
    split at h
    · rename_i heq; cases heq
    · rename_i c l' heq
      simp only [List.cons.injEq] at heq
      obtain ⟨h1, rfl⟩ := heq
      split at h
      · rename_i r' hr
        cases h
        obtain ⟨h2, h3⟩ := capsOf_ok he hr
        refine ⟨by simp [h2], fun i c' hc => ?_⟩
        cases i with
        | zero =>
          cases hc
          exact ⟨y, rfl, VA.inv (h1 ▸ he y)⟩
        | succ i => exact h3 i c' hc
      · cases h
    · cases h

theorem aMinMax_ok {E : Env} {x : Ctx} {mx : Bool} {a b v : A} {p q : Value} (ha : VA x a p) (hb : VA x b q) (h : aMinMax mx a b = some v) (w : World) :
    ∃ r, (if mx = true then Builtin.max2 p q else Builtin.min2 p q).run E.P w = .ok r w ∧ VA x v r := by
  unfold aMinMax at h
  split at h
  · rename_i k p' k' q' h1 h2
    obtain ⟨rfl, _⟩ := sv_eq h1 ha
    obtain ⟨rfl, _⟩ := sv_eq h2 hb
    split at h
    · rename_i hk
      subst hk
      cases h
      cases mx
      · exact ⟨_, by simp only [Bool.false_eq_true, if_false, Builtin.min2, Sem.run_pure], VA.sc x rfl⟩
      · exact ⟨_, by simp only [if_true, Builtin.max2, Sem.run_pure], VA.sc x rfl⟩
    · cases h
  · cases h

theorem aop1_ok {E : Env} {T : List A} {H : Heap} {o : Oper} {v : A} (h : aop1 E T H o.op = some v) : Yld E T H o v H := by
  refine Yld.same fun B x O a hR hT he => ?_
  obtain ⟨dst, op, type, pos, after, guard⟩ := o
  cases op <;> simp only [aop1] at h <;> first | (cases h; done) | skip
  case move y => cases h; exact ⟨_, by simp [execOp], he y⟩
  case assign y => cases h; exact ⟨_, by simp [execOp], he y⟩
  case pick c p q =>
    split at h
    · rename_i t ht
      cases h
      have hc := ofBool_eq ht (he c)
      refine ⟨if t then a.eval p else a.eval q, by simp [execOp, hc, asBool], ?_⟩
      cases t
      · exact he q
      · exact he p
    · cases h
  case load t y =>
    obtain ⟨r, h1, h2⟩ := aLoad_ok hR (he y) h
    exact ⟨r, by simp [execOp, h1], h2⟩
  case nilCheck y => exact aNil_ok hR (he y) h x.w
  case binOp op t y z _ =>
    obtain ⟨r, h1, h2⟩ := aBin_ok hR (X := y) (Y := z) (he y) (he z) h x.w
    refine ⟨r, ?_, h2⟩
    have : (do let s ← (do eqGuard op t y z (a.eval y) (a.eval z); binOp op t (a.eval y) (a.eval z)); pure (Next.value s)).run E.P x.w = .ok (.value r) x.w := by
      rw [Sem.run_bind, h1]; rfl
    exact this
  case unOp op _ y =>
    obtain ⟨r, h1, h2⟩ := aUn_ok (E := E) (he y) h x.w
    exact ⟨r, by simp [execOp, h1], h2⟩
  case convert s d y =>
    obtain ⟨r, h1, h2⟩ := aConv_ok (he y) h x.w
    exact ⟨r, by simp [execOp, h1], h2⟩
  case makeFunc fn first caps =>
    split at h
    · rename_i h0
      split at h
      · rename_i r hr
        cases h
        obtain ⟨h1, h2⟩ := capsOf_ok he hr
        have hf : first = #[] := by apply Array.ext'; simpa using h0
        refine ⟨.func fn #[] (caps.map a.eval), by simp [execOp, Instr.makeFunc, hf], .c _ _ (.clo fn r _ (fun i => a.eval (caps.getD i default)) (by simp [h1]) (fun i c hc => ?_) (fun i c hc => ?_))⟩
        · obtain ⟨y, hy, _⟩ := h2 i c hc
          have hlt : i < caps.size := by have := (List.getElem?_eq_some_iff.1 hy).1; simpa using this
          simp [hlt]
        · obtain ⟨y, hy, hv⟩ := h2 i c hc
          have hlt : i < caps.size := by have := (List.getElem?_eq_some_iff.1 hy).1; simpa using this
          have : caps.getD i default = y := by
            have : caps[i]? = some y := by simpa using hy
            simp [Array.getD_eq_getD_getElem?, this]
          rw [this]; exact hv
      · cases h
    · cases h
  case slice t y lo hi mx =>
    split at h
    · have vo : ∀ o : Option Operand, VO x (o.map (ev E T)) (o.map a.eval) := fun o => by cases o; exact trivial; exact he _
      obtain ⟨r, h1, h2⟩ := aSlice_ok hR (he y) (vo lo) (vo hi) h x.w
      exact ⟨r, by simp [execOp, h1], h2⟩
    · cases h
  case fieldAddr t y f =>
    obtain ⟨r, h1, h2⟩ := aFieldAddr_ok hR (he y) h x.w
    exact ⟨r, by simp [execOp, h1], h2⟩
  case field t y f =>
    obtain ⟨r, h1, h2⟩ := aField_ok (he y) h x.w
    exact ⟨r, by simp [execOp, h1], h2⟩
  case indexAddr t y i =>
    obtain ⟨r, h1, h2⟩ := aIndexAddr_ok hR (he y) (he i) h x.w
    exact ⟨r, by simp [execOp, h1], h2⟩
  case index t y i =>
    obtain ⟨r, h1, h2⟩ := aIndex_ok (he y) (he i) h x.w
    exact ⟨r, by simp [execOp, h1], h2⟩
  case extract y i =>
    have hy := he y
    unfold aExtract at h
    split at h
    · rename_i l heq
      rw [heq] at hy
      generalize hu : a.eval y = u at hy
      cases hy with | tup _ vs uu hl h1 h2 =>
      exact ⟨uu i, by simp [execOp, Instr.extract, hu, h1 i v h], h2 i v h⟩
    · cases h
  case call c =>
    obtain ⟨callee, args, ats⟩ := c
    simp only at h
    split at h
    · split at h
      · rename_i y t hy ht
        have ea : args = #[y] := by apply Array.ext'; simpa using hy
        have et : ats = #[t] := by apply Array.ext'; simpa using ht
        subst ea; subst et
        obtain ⟨r, h1, h2⟩ := aLen_ok hR (ty := type) (he y) h x.w
        exact ⟨r, by simp [execOp, resolve, invoke, builtin, h1], h2⟩
      · cases h
    · split at h
      · rename_i y z hy
        have ea : args = #[y, z] := by apply Array.ext'; simpa using hy
        subst ea
        obtain ⟨r, h1, h2⟩ := aMinMax_ok (E := E) (he y) (he z) h x.w
        simp only [if_true] at h1
        exact ⟨r, by simp [execOp, resolve, invoke, builtin, Builtin.max_, h1], h2⟩
      · cases h
    · split at h
      · rename_i y z hy
        have ea : args = #[y, z] := by apply Array.ext'; simpa using hy
        subst ea
        obtain ⟨r, h1, h2⟩ := aMinMax_ok (E := E) (he y) (he z) h x.w
        simp only [Bool.false_eq_true, if_false] at h1
        exact ⟨r, by simp [execOp, resolve, invoke, builtin, Builtin.min_, h1], h2⟩
      · cases h
    · cases h

end Go.Eng
namespace Go.Eng
open Go.RowKit
set_option linter.unusedVariables false
set_option linter.unusedSimpArgs false

def Blk.n : Blk → Nat × Nat
  | .box _ _ => (0, 0)
  | .rows s rs _ => (s, rs.length)
  | .mp _ => (0, 1)
  | .raw _ => (0, 0)

theorem nOf_some {H : Heap} {id : Nat} {b : Blk} (h : H[id]? = some (some b)) : nOf H id = some b.n := by
  unfold nOf; rw [h]; cases b <;> rfl

theorem nOf_none {H : Heap} {id : Nat} (h : ∀ b, H[id]? ≠ some (some b)) : nOf H id = none := by
  unfold nOf
  split
  · rename_i h'; exact absurd h' (h _)
  · rename_i h'; exact absurd h' (h _)
  · rename_i h'; exact absurd h' (h _)
  · rename_i h'; exact absurd h' (h _)
  · rfl

theorem nOf_inv {H : Heap} {id : Nat} {p : Nat × Nat} (h : nOf H id = some p) : ∃ b, H[id]? = some (some b) ∧ b.n = p := by
  unfold nOf at h
  split at h
  · rename_i h'; cases h; exact ⟨_, h', rfl⟩
  · rename_i h'; cases h; exact ⟨_, h', rfl⟩
  · rename_i h'; cases h; exact ⟨_, h', rfl⟩
  · rename_i h'; cases h; exact ⟨_, h', rfl⟩
  · cases h

theorem BR.mono {x y : Ctx} {O O' : Nat → Prop} {id : Nat} {b : Blk} (h : x.Le y) (hμ : y.μ id = x.μ id) (hO : ∀ k, O k → O' k) (hb : ∀ k, O k → y.w.heap[k]? = x.w.heap[k]?) (hB : BR x O id b) : BR y O' id b := by
  cases b with
  | box cs ty =>
    obtain ⟨b, vs, t, h1, h2, h3, h4⟩ := hB
    exact ⟨b, vs, t, hμ.trans h1, hO b h2, (hb b h2).trans h3, h4.mono h⟩
  | rows s rs =>
    obtain ⟨h0, h1, h2⟩ := hB
    refine ⟨h0, h1, ?_⟩
    rcases h2 with ⟨h2, h3⟩ | ⟨b, lo, vs, t, h2, h3, h4, h5, h6, h7⟩
    · exact .inl ⟨hμ.trans h2, h3⟩
    · refine .inr ⟨b, lo, vs, t, hμ.trans h2, hO b h3, (hb b h3).trans h4, h5, h6, fun i r c d hi hr hd => ?_⟩
      obtain ⟨u, hu, hv⟩ := h7 i r c d hi hr hd
      exact ⟨u, hu, hv.mono h.F⟩
  | mp es =>
    obtain ⟨b, ents, ck, h1, h2, h3, h4⟩ := hB
    exact ⟨b, ents, ck, hμ.trans h1, hO b h2, (hb b h2).trans h3, h4⟩
  | raw r =>
    obtain ⟨h1, h2⟩ := hB
    exact ⟨fun g lo h => hO g (h1 g lo (hμ ▸ h)), by rw [hμ]; exact r.mono h.F hO hb h2⟩

section
variable {B : Base} {x : Ctx} {O : Nat → Nat → Prop} {H : Heap}

theorem Rel.upd (hR : Rel B x O H) {id : Nat} {b b' : Blk} (hid : H[id]? = some (some b)) (w' : World) (m' : Option (Nat × Nat)) (Oid : Nat → Prop)
    (hos : w'.os = x.w.os) (htape : w'.tape = x.w.tape) (hout : w'.output = x.w.output) (hsize : x.w.heap.size ≤ w'.heap.size)
    (hkeep : ∀ k, k < x.w.heap.size → ¬ O id k → w'.heap[k]? = x.w.heap[k]?) (hO : ∀ k, Oid k → (O id k ∨ x.w.heap.size ≤ k) ∧ k < w'.heap.size)
    (hn : b.n.1 = b'.n.1 ∧ b.n.2 ≤ b'.n.2 ∧ (b.n.2 = b'.n.2 → m' = x.μ id ∧ ∀ g lo, x.μ id = some (g, lo) → bsz w' g = bsz x.w g))
    (hB : ∀ y : Ctx, y.w = w' → x.Le y → y.F = x.F → y.μ id = m' → BR y Oid id b') :
    ∃ y O', y.w = w' ∧ x.Le y ∧ y.F = x.F ∧ y.μ id = m' ∧ Rel B y O' (H.set id (some b')) := by
  have hlt : id < H.length := (List.getElem?_eq_some_iff.1 hid).1
  let y : Ctx := { w := w', F := x.F, μ := fun i => if i = id then m' else x.μ i, N := nOf (H.set id (some b')), L := x.L }
  have hset : ∀ i, i ≠ id → nOf (H.set id (some b')) i = nOf H i := fun i hi => by unfold nOf; rw [List.getElem?_set_ne (by omega)]
  have hself : nOf (H.set id (some b')) id = some b'.n := nOf_some (by simp [hlt])
  have hF : ∀ k, x.F k → w'.heap[k]? = x.w.heap[k]? := fun k hk => hkeep k (hR.fr k hk).1 (fun ho => hR.nof _ _ ho hk)
  have hle : x.Le y := by
    refine ⟨fun k hk => ⟨hk, hF k hk⟩, hsize, Nat.le_refl _, fun i hi s m hm => ?_⟩
    by_cases e : i = id
    · subst e
      have h1 : b'.n = (s, m) := Option.some.inj (hself ▸ hm)
      obtain ⟨e1, e2, e3⟩ := hn
      rw [h1] at e1 e2 e3
      refine ⟨b.n.2, ?_, e2, fun e4 => ?_⟩
      · rw [hR.hN, nOf_some hid]; exact congrArg some (Prod.ext e1 rfl)
      · obtain ⟨q1, q2⟩ := e3 e4
        exact ⟨by show (if i = i then m' else _) = _; rw [if_pos rfl, q1], q2⟩
    · have hm' : x.N i = some (s, m) := by rw [hR.hN, ← hset i e]; exact hm
      refine ⟨m, hm', Nat.le_refl _, fun _ => ⟨by show (if i = id then m' else _) = _; rw [if_neg e], fun g lo hg => ?_⟩⟩
      have hb := hR.hN i ▸ hm'
      obtain ⟨bb, hbb, hbn⟩ := nOf_inv hb
      have hO' : O i g := by
        have hB' := hR.blk i bb hbb
        cases bb with
        | box cs ty => obtain ⟨g', vs, t, h1, h2, _⟩ := hB'; rw [h1] at hg; cases hg; exact h2
        | mp es => obtain ⟨g', vs, t, h1, h2, _⟩ := hB'; rw [h1] at hg; cases hg; exact h2
        | raw r => exact hB'.1 _ _ hg
        | rows s' rs =>
          obtain ⟨_, _, h2⟩ := hB'
          rcases h2 with ⟨h2, _⟩ | ⟨g', lo', vs, t, h2, h3, _⟩
          · rw [h2] at hg; cases hg
          · rw [h2] at hg; cases hg; exact h3
      show bsz w' g = _
      unfold bsz
      rw [hkeep g (hR.own i g hO').1 (fun ho => e (hR.disj _ _ _ hO' ho))]
  have hO3 : ∀ i k, (if i = id then Oid k else O i k) → k < w'.heap.size ∧ (O i k ∨ x.w.heap.size ≤ k) := fun i k hk => by
    split at hk
    · rename_i e; subst e; exact ⟨(hO k hk).2, (hO k hk).1⟩
    · exact ⟨Nat.lt_of_lt_of_le (hR.own i k hk).1 hsize, .inl hk⟩
  refine ⟨y, fun i k => if i = id then Oid k else O i k, rfl, hle, rfl, if_pos rfl, ?_⟩
  refine ⟨?_, fun _ => rfl, hR.le.trans hle, hos.trans hR.os, htape.trans hR.tape, hout.trans hR.output, fun k hk hA => ?_, fun i k hk => ?_, fun k hk => ?_, fun i j k hi hj => ?_, fun i k hk hf => ?_, fun i bb hb => ?_⟩
  · show x.L = _
    rw [List.length_set]; exact hR.hL
  · refine (hkeep k (Nat.lt_of_lt_of_le hk hR.le.size) (fun ho => ?_)).trans (hR.keep k hk hA)
    rcases (hR.own id k ho).2 with h | h
    · exact hA h
    · omega
  · obtain ⟨h1, h2⟩ := hO3 i k hk
    refine ⟨h1, ?_⟩
    rcases h2 with h2 | h2
    · exact (hR.own i k h2).2
    · exact .inr (Nat.le_trans hR.le.size h2)
  · exact ⟨Nat.lt_of_lt_of_le (hR.fr k hk).1 hsize, (hR.fr k hk).2⟩
  · by_cases ei : i = id <;> by_cases ej : j = id
    · rw [ei, ej]
    · exfalso
      rw [if_pos ei] at hi
      rw [if_neg ej] at hj
      rcases (hO k hi).1 with h | h
      · exact ej (hR.disj _ _ _ hj h)
      · have := (hR.own j k hj).1; omega
    · exfalso
      rw [if_neg ei] at hi
      rw [if_pos ej] at hj
      rcases (hO k hj).1 with h | h
      · exact ei (hR.disj _ _ _ hi h)
      · have := (hR.own i k hi).1; omega
    · rw [if_neg ei] at hi
      rw [if_neg ej] at hj
      exact hR.disj _ _ _ hi hj
  · obtain ⟨_, h2⟩ := hO3 i k hk
    have hf' : x.F k := hf
    rcases h2 with h2 | h2
    · exact hR.nof _ _ h2 hf'
    · have := (hR.fr k hf').1; omega
  · by_cases e : i = id
    · subst e
      rw [List.getElem?_set_self hlt] at hb
      cases hb
      simp only [if_pos]
      exact hB y rfl hle rfl (if_pos rfl)
    · rw [List.getElem?_set_ne (by omega)] at hb
      simp only [if_neg e]
      exact (hR.blk i bb hb).mono hle (by show (if i = id then m' else _) = _; rw [if_neg e]) (fun _ h => h) (fun k hk => hkeep k (hR.own i k hk).1 (fun ho => e (hR.disj _ _ _ hk ho)))

theorem Rel.new (hR : Rel B x O H) (b' : Blk) (w' : World) (m' : Option (Nat × Nat)) (Oid : Nat → Prop)
    (hos : w'.os = x.w.os) (htape : w'.tape = x.w.tape) (hout : w'.output = x.w.output) (hsize : x.w.heap.size ≤ w'.heap.size)
    (hkeep : ∀ k, k < x.w.heap.size → w'.heap[k]? = x.w.heap[k]?) (hO : ∀ k, Oid k → x.w.heap.size ≤ k ∧ k < w'.heap.size)
    (hB : ∀ y : Ctx, y.w = w' → x.Le y → y.F = x.F → y.μ H.length = m' → BR y Oid H.length b') :
    ∃ y O', y.w = w' ∧ x.Le y ∧ y.F = x.F ∧ y.μ H.length = m' ∧ y.L = H.length + 1 ∧ Rel B y O' (H ++ [some b']) := by
  let y : Ctx := { w := w', F := x.F, μ := fun i => if i = H.length then m' else x.μ i, N := nOf (H ++ [some b']), L := H.length + 1 }
  have hold : ∀ i, i < H.length → nOf (H ++ [some b']) i = nOf H i := fun i hi => by unfold nOf; rw [List.getElem?_append_left hi]
  have hF : ∀ k, x.F k → w'.heap[k]? = x.w.heap[k]? := fun k hk => hkeep k (hR.fr k hk).1
  have hlt : ∀ i k, O i k → True := fun _ _ _ => trivial
  have hle : x.Le y := by
    refine ⟨fun k hk => ⟨hk, hF k hk⟩, hsize, by show x.L ≤ H.length + 1; rw [hR.hL]; omega, fun i hi s m hm => ?_⟩
    have hi' : i < H.length := by rw [← hR.hL]; exact hi
    have hm' : x.N i = some (s, m) := by rw [hR.hN, ← hold i hi']; exact hm
    refine ⟨m, hm', Nat.le_refl _, fun _ => ⟨by show (if i = H.length then m' else _) = _; rw [if_neg (by omega)], fun g lo hg => ?_⟩⟩
    obtain ⟨bb, hbb, hbn⟩ := nOf_inv (hR.hN i ▸ hm')
    have hO' : O i g := by
      have hB' := hR.blk i bb hbb
      cases bb with
      | box cs ty => obtain ⟨g', vs, t, h1, h2, _⟩ := hB'; rw [h1] at hg; cases hg; exact h2
      | mp es => obtain ⟨g', vs, t, h1, h2, _⟩ := hB'; rw [h1] at hg; cases hg; exact h2
      | raw r => exact hB'.1 _ _ hg
      | rows s' rs =>
        obtain ⟨_, _, h2⟩ := hB'
        rcases h2 with ⟨h2, _⟩ | ⟨g', lo', vs, t, h2, h3, _⟩
        · rw [h2] at hg; cases hg
        · rw [h2] at hg; cases hg; exact h3
    show bsz w' g = _
    unfold bsz
    rw [hkeep g (hR.own i g hO').1]
  refine ⟨y, fun i k => if i = H.length then Oid k else O i k, rfl, hle, rfl, if_pos rfl, rfl, ?_⟩
  refine ⟨by simp [y], fun _ => rfl, hR.le.trans hle, hos.trans hR.os, htape.trans hR.tape, hout.trans hR.output, fun k hk hA => ?_, fun i k hk => ?_, fun k hk => ?_, fun i j k hi hj => ?_, fun i k hk hf => ?_, fun i bb hb => ?_⟩
  · exact (hkeep k (Nat.lt_of_lt_of_le hk hR.le.size)).trans (hR.keep k hk hA)
  · by_cases e : i = H.length
    · rw [if_pos e] at hk
      exact ⟨(hO k hk).2, .inr (Nat.le_trans hR.le.size (hO k hk).1)⟩
    · rw [if_neg e] at hk
      exact ⟨Nat.lt_of_lt_of_le (hR.own i k hk).1 hsize, (hR.own i k hk).2⟩
  · exact ⟨Nat.lt_of_lt_of_le (hR.fr k hk).1 hsize, (hR.fr k hk).2⟩
  · by_cases ei : i = H.length <;> by_cases ej : j = H.length
    · rw [ei, ej]
    · exfalso
      rw [if_pos ei] at hi
      rw [if_neg ej] at hj
      have h1 := (hO k hi).1
      have := (hR.own j k hj).1; omega
    · exfalso
      rw [if_neg ei] at hi
      rw [if_pos ej] at hj
      have h1 := (hO k hj).1
      have := (hR.own i k hi).1; omega
    · rw [if_neg ei] at hi
      rw [if_neg ej] at hj
      exact hR.disj _ _ _ hi hj
  · have hf' : x.F k := hf
    by_cases e : i = H.length
    · rw [if_pos e] at hk
      have := (hR.fr k hf').1
      have := (hO k hk).1; omega
    · rw [if_neg e] at hk
      exact hR.nof _ _ hk hf'
  · by_cases e : i = H.length
    · subst e
      simp only [List.getElem?_append_right (Nat.le_refl _), Nat.sub_self, List.getElem?_cons_zero, Option.some.injEq] at hb
      subst hb
      simp only [if_pos]
      exact hB y rfl hle rfl (if_pos rfl)
    · have hi' : i < H.length := by have := (List.getElem?_eq_some_iff.1 hb).1; simp at this; omega
      rw [List.getElem?_append_left hi'] at hb
      simp only [if_neg e]
      exact (hR.blk i bb hb).mono hle (by show (if i = H.length then m' else _) = _; rw [if_neg e]) (fun _ h => h) (fun k hk => hkeep k (hR.own i k hk).1)

theorem Rel.freeze (hR : Rel B x O H) {id : Nat} {b : Blk} (hid : H[id]? = some (some b)) :
    ∃ y O', y.w = x.w ∧ x.Le y ∧ (∀ k, y.F k ↔ x.F k ∨ O id k) ∧ Rel B y O' (H.set id none) := by
  have hlt : id < H.length := (List.getElem?_eq_some_iff.1 hid).1
  let y : Ctx := { w := x.w, F := fun k => x.F k ∨ O id k, μ := x.μ, N := nOf (H.set id none), L := x.L }
  have hset : ∀ i, i ≠ id → nOf (H.set id none) i = nOf H i := fun i hi => by unfold nOf; rw [List.getElem?_set_ne (by omega)]
  have hself : nOf (H.set id none) id = none := nOf_none (by simp [hlt])
  have hle : x.Le y := by
    refine ⟨fun k hk => ⟨.inl hk, rfl⟩, Nat.le_refl _, Nat.le_refl _, fun i hi s m hm => ?_⟩
    by_cases e : i = id
    · subst e
      have h1 : none = some (s, m) := hself ▸ hm
      cases h1
    · exact ⟨m, by rw [hR.hN, ← hset i e]; exact hm, Nat.le_refl _, fun _ => ⟨rfl, fun _ _ _ => rfl⟩⟩
  refine ⟨y, fun i k => i ≠ id ∧ O i k, rfl, hle, fun k => Iff.rfl, ?_⟩
  refine ⟨by show x.L = _; rw [List.length_set]; exact hR.hL, fun _ => rfl, hR.le.trans hle, hR.os, hR.tape, hR.output, hR.keep, fun i k hk => hR.own i k hk.2, fun k hk => ?_, fun i j k hi hj => hR.disj _ _ _ hi.2 hj.2, fun i k hk hf => ?_, fun i bb hb => ?_⟩
  · rcases hk with hk | hk
    · exact hR.fr k hk
    · have := hR.own id k hk
      exact ⟨this.1, this.2.elim (fun h => .inr (.inl h)) (fun h => .inr (.inr h))⟩
  · rcases hf with hf | hf
    · exact hR.nof _ _ hk.2 hf
    · exact hk.1 (hR.disj _ _ _ hk.2 hf)
  · by_cases e : i = id
    · subst e
      rw [List.getElem?_set_self hlt] at hb
      cases hb
    · rw [List.getElem?_set_ne (by omega)] at hb
      exact (hR.blk i bb hb).mono hle rfl (fun _ h => ⟨e, h⟩) (fun _ _ => rfl)

end
end Go.Eng
namespace Go.Eng
open Go.RowKit
set_option linter.unusedVariables false
set_option linter.unusedSimpArgs false

section
variable {E : Env}

theorem inf_run {t : TypeId} {s b : Nat} {z : Value} (h : E.inf t = some (s, b, z)) : ∃ i, E.P.info? t = some i ∧ i.size = s ∧ i.bytes = b ∧ i.zero = some z := E.hinf _ _ _ _ h

theorem zero_run {t : TypeId} {s b : Nat} {z : Value} (h : E.inf t = some (s, b, z)) (w : World) : (zeroValue t).run E.P w = .ok z w := by
  obtain ⟨i, h1, _, _, h2⟩ := inf_run h
  simp [zeroValue, typeInfo, h1, h2]

theorem size_of_inf {t : TypeId} {s b : Nat} {z : Value} (h : E.inf t = some (s, b, z)) : E.size t = some s := by simp [Env.size, h]

theorem one_oneCell {v : Value} (h : one v = true) : v.oneCell' = true := by cases v <;> first | rfl | cases h

def Env.noInt (E : Env) (t : TypeId) : Bool := match E.und t with | some (.slice _) => true | some .string => true | _ => false

theorem noInt_run {t : TypeId} (h : E.noInt t = true) : (∃ e, E.und t = some (.slice e)) ∨ E.und t = some .string := by
  unfold Env.noInt at h
  split at h
  · exact .inl ⟨_, by assumption⟩
  · exact .inr (by assumption)
  · cases h

theorem app_room {t t2 ty e : TypeId} {sz by_ : Nat} {z : Value} (ht : E.und t = some (.slice e)) (hi : E.inf e = some (sz, by_, z)) (h2 : E.noInt t2 = true)
    {b o n cap m : Nat} {xv : Value} {news : List Value} {cur : Array Value} {tt : TypeId} {w : World} (hx : (Builtin.lenOf xv) = pure m)
    (hf : ∀ w', w'.heap = w.heap → (Builtin.firstCells sz m xv).run E.P w' = .ok news.toArray w') (h1 : ∀ v ∈ news, one v = true)
    (hg : w.heap[b]? = some (.cells cur tt (0, 0))) (hroom : n + m ≤ cap) (hfit : o + n * sz + news.length ≤ cur.size) :
    (Builtin.append_ #[t, t2] ty #[.slice (some ⟨b, o, none⟩) n cap, xv]).run E.P w =
      .ok (.slice (some ⟨b, o, none⟩) (n + m) cap) (w.setRow b (cur.toList.take (o + n * sz) ++ news ++ cur.toList.drop (o + n * sz + news.length)).toArray) := by
  obtain ⟨i, q1, q2, q3, q4⟩ := inf_run hi
  have hst := run_storeCells_at E.P b (o + n * sz) tt news 0 cur w hg (by simpa using hfit) (fun v hv => one_oneCell (h1 v hv))
  simp only [Nat.add_zero] at hst
  have hfw := hf w rfl
  rcases noInt_run h2 with ⟨_, hd⟩ | hd <;> simp [Builtin.append_, und_run ht, und_run hd, sizeOf, typeInfo, q1, q2, hx, hroom, hfw, Addr.add_lit, hst]

set_option maxHeartbeats 4000000 in
theorem app_grow {t t2 ty e : TypeId} {sz by_ : Nat} {z : Value} (ht : E.und t = some (.slice e)) (hi : E.inf e = some (sz, by_, z)) (h2 : E.noInt t2 = true)
    {base : Option Addr} {n cap m : Nat} {xv : Value} {olds news : List Value} {w : World} (hx : (Builtin.lenOf xv) = pure m)
    (hf : ∀ w', w'.heap = w.heap → (Builtin.firstCells sz m xv).run E.P w' = .ok news.toArray w')
    (ho : ∀ w', w'.heap = w.heap → (Builtin.firstCells sz n (.slice base n cap)).run E.P w' = .ok olds.toArray w')
    (hg : cap < n + m) (h63 : n + m ≤ 9223372036854775807) (hb : (n + m) * by_ ≤ 140737488355328) :
    (Builtin.append_ #[t, t2] ty #[.slice base n cap, xv]).run E.P w =
      .ok (.slice (some ⟨w.heap.size, 0, none⟩) (n + m) (grownCap w (n + m) cap e))
        (w.drew.alloc (.cells (olds.toArray ++ news.toArray ++ Builtin.zeroCells z.cells (grownCap w (n + m) cap e - (n + m))) e)) := by
  obtain ⟨i, q1, q2, q3, q4⟩ := inf_run hi
  have hn : ¬ (n + m ≤ cap) := by omega
  have h63' : ¬ (9223372036854775807 < ((n : Int) + (m : Int))) := by omega
  have h48' : ¬ (281474976710656 < Builtin.nextslicecap (n + m) cap * i.bytes) := by rw [q3]; have := growslice_fits hg hb; omega
  have hf' := hf w.drew rfl
  have ho' := ho w.drew rfl
  rcases noInt_run h2 with ⟨_, hd⟩ | hd
  all_goals
    simp [Builtin.append_, und_run ht, und_run hd, sizeOf, typeInfo, zeroValue, q1, q2, q4, hx, hn, h63', h48', Question.forced, hf', ho', newRow, grownCap]
    congr 2
    apply Array.ext'
    simp [List.append_assoc]

end
end Go.Eng
