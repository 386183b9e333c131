/- The words of a machine on plain data, and that the program does what this machine does. -/
import Derived.Below
import Derived.Orders
import Derived.Laws.Cells
import Derived.Laws.CopyRow
import Derived.Laws.StructEq
import Derived.Tactics
import Derived.Laws.Slices
import Derived.Laws.IdiomCopy
import Derived.Laws.Append
import Derived.Laws.Tables
import Derived.Laws.MakeOwn
import GoSem.Instr.MapUpdate
import GoSem.Instr.MakeMap
import Derived.Control
import Derived.Deep.LoopGhost
namespace Go.Eng
open Go.RowKit
set_option linter.unusedVariables false

inductive D
  | sc (v : Value)
  | fz (rs : List (List D))

inductive C
  | d (x : D)
  | nils
  | own (id off len n : Nat)
  | ptr (id j off n : Nat)
  | pf (cells : List D) (off : Nat)
  | pa (rows : List (List D))
  | clo (fn : Fn) (caps : List C)
  | any

inductive A
  | c (x : C)
  | agg (cells : List C)
  | tup (vs : List A)
  | und
  | any

inductive Blk
  | box (cells : List C) (ty : Option TypeId := none)
  | rows (s : Nat) (rs : List (List D)) (ty : Option TypeId := none)
  | mp (es : List (Value × Value))

abbrev Heap := List (Option Blk)

def one : Value → Bool | .agg _ => false | .tuple _ => false | _ => true

inductive DR (w : World) (F : Nat → Prop) : D → Value → Prop
  | sc (v : Value) (h : one v = true) : DR w F (.sc v) v
  | nil (a : Option Addr) (cap : Nat) : DR w F (.fz []) (.slice a 0 cap)
  | fz (rs : List (List D)) (b o cap s : Nat) (u : Nat → Nat → Value) (hcap : rs.length ≤ cap) (hs : ∀ r ∈ rs, r.length = s) (hF : F b)
      (hc : ∀ i r c x, rs[i]? = some r → r[c]? = some x → w.cell? ⟨b, o + (i * s + c), none⟩ = some (u i c))
      (hd : ∀ i r c x, rs[i]? = some r → r[c]? = some x → DR w F x (u i c)) : DR w F (.fz rs) (.slice (some ⟨b, o, none⟩) rs.length cap)

def bsz (w : World) (b : Nat) : Option Nat := match w.heap[b]? with | some (.cells vs _ _) => some vs.size | _ => none

structure Ctx where
  w : World
  F : Nat → Prop
  μ : Nat → Option (Nat × Nat)
  N : Nat → Option (Nat × Nat)
  L : Nat

def OwnR (x : Ctx) (id off len n : Nat) (v : Value) : Prop :=
  one v = true ∧ id < x.L ∧ ∀ s m, x.N id = some (s, m) → n ≤ m ∧ (n = m → match x.μ id with
    | none => v = .slice none 0 0 ∧ off = 0 ∧ len = 0 ∧ n = 0
    | some (b, lo) => ∃ a cap sz, v = .slice (some a) len cap ∧ (cap = 0 ∨ a = ⟨b, (off - lo) * s, none⟩) ∧ lo ≤ off ∧ off + len ≤ n ∧ n ≤ off + cap ∧ len ≤ cap ∧ bsz x.w b = some sz ∧ (off + cap - lo) * s ≤ sz)

def PtrR (x : Ctx) (id j off n : Nat) (v : Value) : Prop :=
  one v = true ∧ id < x.L ∧ ∀ s m, x.N id = some (s, m) → n ≤ m ∧ (n = m → ∃ b lo, x.μ id = some (b, lo) ∧ lo ≤ j ∧ v = if s = 0 ∧ m = 1 then .map (some b) else .pointer (some ⟨b, (j - lo) * s + off, none⟩))

inductive VR (x : Ctx) : C → Value → Prop
  | d (d : D) (v : Value) (h : DR x.w x.F d v) : VR x (.d d) v
  | nils : VR x .nils (.slice none 0 0)
  | own (id off len n : Nat) (v : Value) (h : OwnR x id off len n v) : VR x (.own id off len n) v
  | ptr (id j off n : Nat) (v : Value) (h : PtrR x id j off n v) : VR x (.ptr id j off n) v
  | pf (cells : List D) (off b o : Nat) (hF : cells ≠ [] → x.F b) (hc : ∀ k d, cells[k]? = some d → ∃ u, x.w.cell? ⟨b, o + k, none⟩ = some u ∧ DR x.w x.F d u) :
      VR x (.pf cells off) (.pointer (some ⟨b, o + off, none⟩))
  | pa (rows : List (List D)) (b o s : Nat) (hF : rows ≠ [] → x.F b) (hs : ∀ r ∈ rows, r.length = s)
      (hc : ∀ i r c d, rows[i]? = some r → r[c]? = some d → ∃ u, x.w.cell? ⟨b, o + (i * s + c), none⟩ = some u ∧ DR x.w x.F d u) :
      VR x (.pa rows) (.pointer (some ⟨b, o, none⟩))
  | clo (fn : Fn) (caps : List C) (vs : Array Value) (u : Nat → Value) (hl : vs.size = caps.length)
      (hu : ∀ (i : Nat) c, caps[i]? = some c → vs[i]? = some (u i)) (hv : ∀ (i : Nat) c, caps[i]? = some c → VR x c (u i)) : VR x (.clo fn caps) (.func fn #[] vs)
  | any (v : Value) (h : one v = true) : VR x .any v

def CsR (x : Ctx) (cs : List C) (vs : Array Value) : Prop := vs.size = cs.length ∧ ∀ (i : Nat) c, cs[i]? = some c → ∃ u, vs[i]? = some u ∧ VR x c u

inductive VA (x : Ctx) : A → Value → Prop
  | c (c : C) (v : Value) (h : VR x c v) : VA x (.c c) v
  | agg (cs : List C) (vs : Array Value) (h : CsR x cs vs) : VA x (.agg cs) (.agg vs)
  | tup (l : List A) (vs : Array Value) (u : Nat → Value) (hl : vs.size = l.length)
      (hu : ∀ (i : Nat) a, l[i]? = some a → vs[i]? = some (u i)) (hv : ∀ (i : Nat) a, l[i]? = some a → VA x a (u i)) : VA x (.tup l) (.tuple vs)
  | und : VA x .und undef
  | any (v : Value) : VA x .any v

def TR (x : Ctx) (T : List A) (vs : Array Value) : Prop := vs.size = T.length ∧ ∀ (i : Nat) a, T[i]? = some a → ∃ u, vs[i]? = some u ∧ VA x a u

def BR (x : Ctx) (O : Nat → Prop) (id : Nat) : Blk → Prop
  | .box cs ty => ∃ b vs t, x.μ id = some (b, 0) ∧ O b ∧ x.w.heap[b]? = some (.cells vs (ty.getD t) (0, 0)) ∧ CsR x cs vs
  | .rows s rs ty => 0 < s ∧ (∀ r ∈ rs, r.length = s) ∧ ((x.μ id = none ∧ rs = []) ∨ ∃ b lo vs t, x.μ id = some (b, lo) ∧ O b ∧ x.w.heap[b]? = some (.cells vs (ty.getD t) (0, 0)) ∧
      lo ≤ rs.length ∧ (rs.length - lo) * s ≤ vs.size ∧ ∀ i r c d, lo ≤ i → rs[i]? = some r → r[c]? = some d → ∃ u, vs[(i - lo) * s + c]? = some u ∧ DR x.w x.F d u)
  | .mp es => ∃ b ents clock, x.μ id = some (b, 0) ∧ O b ∧ x.w.heap[b]? = some (.map ents clock) ∧ ents.toList.map (fun e => (e.key, e.val)) = es

def nOf (H : Heap) (id : Nat) : Option (Nat × Nat) :=
  match H[id]? with
  | some (some (.box _ _)) => some (0, 0)
  | some (some (.rows s rs _)) => some (s, rs.length)
  | some (some (.mp _)) => some (0, 1)
  | _ => none

structure Ctx.Le (x y : Ctx) : Prop where
  F : ∀ k, x.F k → y.F k ∧ y.w.heap[k]? = x.w.heap[k]?
  size : x.w.heap.size ≤ y.w.heap.size
  L : x.L ≤ y.L
  N : ∀ id, id < x.L → ∀ s m, y.N id = some (s, m) → ∃ n, x.N id = some (s, n) ∧ n ≤ m ∧ (n = m → y.μ id = x.μ id ∧ ∀ b lo, x.μ id = some (b, lo) → bsz y.w b = bsz x.w b)

structure Base where
  x : Ctx
  A : Nat → Prop

structure Rel (B : Base) (x : Ctx) (O : Nat → Nat → Prop) (H : Heap) : Prop where
  hL : x.L = H.length
  hN : ∀ id, x.N id = nOf H id
  le : B.x.Le x
  os : x.w.os = B.x.w.os
  tape : x.w.tape = B.x.w.tape
  output : x.w.output = B.x.w.output
  keep : ∀ k, k < B.x.w.heap.size → ¬ B.A k → x.w.heap[k]? = B.x.w.heap[k]?
  own : ∀ id k, O id k → k < x.w.heap.size ∧ (B.A k ∨ B.x.w.heap.size ≤ k)
  fr : ∀ k, x.F k → k < x.w.heap.size ∧ (B.x.F k ∨ B.A k ∨ B.x.w.heap.size ≤ k)
  disj : ∀ id id' k, O id k → O id' k → id = id'
  nof : ∀ id k, O id k → ¬ x.F k
  blk : ∀ id b, H[id]? = some (some b) → BR x (O id) id b

def SRel (B : Base) (T : List A) (H : Heap) (vs : Array Value) (w : World) : Prop := ∃ x O, x.w = w ∧ Rel B x O H ∧ TR x T vs


theorem cell_of {w w' : World} {k : Nat} (h : w'.heap[k]? = w.heap[k]?) (o : Nat) : w'.cell? ⟨k, o, none⟩ = w.cell? ⟨k, o, none⟩ := by
  unfold World.cell?; simp only [h]

theorem DR.mono {w w' : World} {F F' : Nat → Prop} (hF : ∀ k, F k → F' k ∧ w'.heap[k]? = w.heap[k]?) {d : D} {v : Value} (h : DR w F d v) : DR w' F' d v := by
  induction h with
  | sc v h => exact .sc v h
  | nil a cap => exact .nil a cap
  | fz rs b o cap s u hcap hs hb hc hd ih => exact .fz rs b o cap s u hcap hs (hF b hb).1 (fun i r c x hi hx => (cell_of (hF b hb).2 _).trans (hc i r c x hi hx)) ih

theorem DR.one {w : World} {F : Nat → Prop} {d : D} {v : Value} (h : DR w F d v) : Eng.one v = true := by
  cases h <;> first | assumption | rfl

theorem VR.one {x : Ctx} {c : C} {v : Value} (h : VR x c v) : Eng.one v = true := by
  cases h with
  | d d v h => exact h.one
  | own id off len n v h => exact h.1
  | ptr id j off n v h => exact h.1
  | any v h => exact h
  | _ => rfl

theorem OwnR.mono {x y : Ctx} (h : x.Le y) {id off len n : Nat} {v : Value} (hv : OwnR x id off len n v) : OwnR y id off len n v := by
  obtain ⟨h1, hL, h2⟩ := hv
  refine ⟨h1, Nat.lt_of_lt_of_le hL h.L, fun s m hm => ?_⟩
  obtain ⟨n', hn', hle, heq⟩ := h.N id hL s m hm
  obtain ⟨hnn, hrest⟩ := h2 s n' hn'
  refine ⟨Nat.le_trans hnn hle, fun e => ?_⟩
  have e1 : n = n' := by omega
  have e2 : n' = m := by omega
  obtain ⟨hμ, hs⟩ := heq e2
  have h3 := hrest e1
  rw [hμ]
  split at h3
  · exact h3
  · rename_i b lo hb
    obtain ⟨a, cap, sz, q1, q2, q3, q4, q5, q6, q7, q8⟩ := h3
    exact ⟨a, cap, sz, q1, q2, q3, q4, q5, q6, (hs b lo hb).trans q7, q8⟩

theorem PtrR.mono {x y : Ctx} (h : x.Le y) {id j off n : Nat} {v : Value} (hv : PtrR x id j off n v) : PtrR y id j off n v := by
  obtain ⟨h1, hL, h2⟩ := hv
  refine ⟨h1, Nat.lt_of_lt_of_le hL h.L, fun s m hm => ?_⟩
  obtain ⟨n', hn', hle, heq⟩ := h.N id hL s m hm
  obtain ⟨hnn, hrest⟩ := h2 s n' hn'
  refine ⟨Nat.le_trans hnn hle, fun e => ?_⟩
  obtain ⟨b, lo, q1, q2, q3⟩ := hrest (by omega)
  obtain rfl : n' = m := by omega
  exact ⟨b, lo, ((heq rfl).1).trans q1, q2, q3⟩

theorem VR.mono {x y : Ctx} (h : x.Le y) {c : C} {v : Value} (hv : VR x c v) : VR y c v := by
  induction hv with
  | d d v hd => exact .d d v (hd.mono h.F)
  | nils => exact .nils
  | own id off len n v hv => exact .own _ _ _ _ _ (hv.mono h)
  | ptr id j off n v hv => exact .ptr _ _ _ _ _ (hv.mono h)
  | pf cells off b o hF hc =>
    refine .pf cells off b o (fun hn => (h.F b (hF hn)).1) (fun k d hk => ?_)
    obtain ⟨u, hu, hd⟩ := hc k d hk
    exact ⟨u, (cell_of (h.F b (hF (by rintro rfl; simp at hk))).2 _).trans hu, hd.mono h.F⟩
  | pa rows b o s hF hs hc =>
    refine .pa rows b o s (fun hn => (h.F b (hF hn)).1) hs (fun i r c d hi hd => ?_)
    obtain ⟨u, hu, hd⟩ := hc i r c d hi hd
    exact ⟨u, (cell_of (h.F b (hF (by rintro rfl; simp at hi))).2 _).trans hu, hd.mono h.F⟩
  | clo fn caps vs u hl hu _ ih => exact .clo fn caps vs u hl hu ih
  | any v hv => exact .any v hv

theorem CsR.mono {x y : Ctx} (h : x.Le y) {cs : List C} {vs : Array Value} (hv : CsR x cs vs) : CsR y cs vs :=
  ⟨hv.1, fun i c hc => let ⟨u, h1, h2⟩ := hv.2 i c hc; ⟨u, h1, h2.mono h⟩⟩

theorem VA.mono {x y : Ctx} (h : x.Le y) {a : A} {v : Value} (hv : VA x a v) : VA y a v := by
  induction hv with
  | c c v hv => exact .c c v (hv.mono h)
  | agg cs vs hv => exact .agg cs vs (hv.mono h)
  | tup l vs u hl hu _ ih => exact .tup l vs u hl hu ih
  | und => exact .und
  | any v => exact .any v

theorem TR.mono {x y : Ctx} (h : x.Le y) {T : List A} {vs : Array Value} (hv : TR x T vs) : TR y T vs :=
  ⟨hv.1, fun i c hc => let ⟨u, h1, h2⟩ := hv.2 i c hc; ⟨u, h1, h2.mono h⟩⟩

theorem Ctx.Le.refl (x : Ctx) : x.Le x := ⟨fun _ h => ⟨h, rfl⟩, Nat.le_refl _, Nat.le_refl _, fun id _ s m h => ⟨m, h, Nat.le_refl _, fun _ => ⟨rfl, fun _ _ _ => rfl⟩⟩⟩

theorem Ctx.Le.trans {x y z : Ctx} (h : x.Le y) (k : y.Le z) : x.Le z := by
  refine ⟨fun b hb => ?_, Nat.le_trans h.size k.size, Nat.le_trans h.L k.L, fun id hid s m hm => ?_⟩
  · obtain ⟨h1, h2⟩ := h.F b hb
    obtain ⟨h3, h4⟩ := k.F b h1
    exact ⟨h3, h4.trans h2⟩
  · obtain ⟨n, hn, hle, heq⟩ := k.N id (Nat.lt_of_lt_of_le hid h.L) s m hm
    obtain ⟨n', hn', hle', heq'⟩ := h.N id hid s n hn
    refine ⟨n', hn', Nat.le_trans hle' hle, fun e => ?_⟩
    obtain ⟨q1, q2⟩ := heq (by omega)
    obtain ⟨q3, q4⟩ := heq' (by omega)
    exact ⟨q1.trans q3, fun b lo hb => (q2 b lo (q3.trans hb)).trans (q4 b lo hb)⟩

end Go.Eng
namespace Go.Eng
open Go.RowKit
set_option linter.unusedVariables false
set_option linter.unusedSimpArgs false

def allOne : List Value → Bool
  | [] => true
  | v :: l => one v && allOne l

def noRef : C → Bool
  | .d _ => true
  | .pf _ _ => true
  | .pa _ => true
  | .any => true
  | _ => false

def EqS (P : Program) (t : TypeId) (n : Nat) : Prop := P.stoodInHeld t = false ∧ P.eqGuardType P.depth t = false ∧ P.underlying t = some (.struct (P.fieldsOf t)) ∧ (P.fieldsOf t).size = n ∧
  ∀ (i : Nat) (f : Field), (P.fieldsOf t).toList[i]? = some f → f.name ≠ "_" ∧ f.offset = i ∧ ∃ k d, P.underlying f.type = some (.int k) ∧ P.info? f.type = some d

structure Env where
  P : Program
  und : TypeId → Option TypeDesc
  inf : TypeId → Option (Nat × Nat × Value)
  glob : Nat → C
  hund : ∀ t d, und t = some d → P.underlying t = some d
  hinf : ∀ t s b z, inf t = some (s, b, z) → ∃ i, P.info? t = some i ∧ i.size = s ∧ i.bytes = b ∧ i.zero = some z
  hz : ∀ t s b z, inf t = some (s, b, z) → z.cells.size = s ∧ allOne z.cells.toList = true
  hfl : ∀ t fs, und t = some (.struct fs) → ∀ f ∈ fs, (P.info? f.type).isSome = true
  hgl : ∀ g, noRef (glob g) = true
  hmix : P.follows .mixedOrders = true
  ty : TypeId → Option TypeId := fun _ => none
  hty : ∀ t t', ty t = some t' → t' = t := by intro t t' h; cases h
  seq : TypeId → Option Nat := fun _ => none
  hseq : ∀ t n, seq t = some n → EqS P t n := by intro t n h; cases h

def Base.ok (B : Base) (E : Env) : Prop := ∀ g, VR B.x (E.glob g) (.pointer (some ⟨g, 0, none⟩))

def gT : List A → Nat → A
  | [], _ => .any
  | a :: _, 0 => a
  | _ :: l, n + 1 => gT l n

def pT : List A → Nat → A → List A
  | [], _, _ => []
  | _ :: l, 0, x => x :: l
  | a :: l, n + 1, x => a :: pT l n x

def putT (T : List A) : Option Nat → A → List A
  | none, _ => T
  | some d, v => pT T d v

def cvC : Value → C
  | .slice none 0 0 => .nils
  | v => .d (.sc v)

def cvA : Value → A
  | .agg vs => if allOne vs.toList then .agg (vs.toList.map cvC) else .any
  | .tuple _ => .any
  | v => .c (cvC v)

def ev (E : Env) (T : List A) : Operand → A
  | .tmp t => gT T t
  | .const v => cvA v
  | .global g => .c (E.glob g)
  | .func f => .c (.clo (.func f) [])

theorem gT_eq : ∀ (T : List A) (i : Nat), gT T i = (T[i]?).getD .any
  | [], _ => by simp [gT]
  | a :: l, 0 => by simp [gT]
  | a :: l, n + 1 => by simp [gT, gT_eq l n]

theorem pT_length : ∀ (T : List A) (i : Nat) (v : A), (pT T i v).length = T.length
  | [], _, _ => rfl
  | a :: l, 0, _ => rfl
  | a :: l, n + 1, v => by simp [pT, pT_length l n v]

theorem pT_eq : ∀ (T : List A) (i : Nat) (v : A), pT T i v = T.set i v
  | [], _, _ => by simp [pT]
  | a :: l, 0, _ => by simp [pT]
  | a :: l, n + 1, v => by simp [pT, pT_eq l n v]

theorem allOne_mem : ∀ {l : List Value}, allOne l = true → ∀ v ∈ l, one v = true
  | [], _, v, h => by simp at h
  | a :: l, h, v, hv => by
    simp only [allOne, Bool.and_eq_true] at h
    rcases List.mem_cons.1 hv with rfl | hv
    · exact h.1
    · exact allOne_mem h.2 v hv

theorem VR.cv (x : Ctx) {v : Value} (h : Eng.one v = true) : VR x (cvC v) v := by
  unfold cvC
  split
  · exact .nils
  · exact .d _ _ (.sc _ h)

theorem VA.cv (x : Ctx) (v : Value) : VA x (cvA v) v := by
  unfold cvA
  split
  · rename_i vs
    split
    · rename_i h
      refine .agg _ _ ⟨by simp, fun i c hc => ?_⟩
      simp only [List.getElem?_map, Option.map_eq_some_iff] at hc
      obtain ⟨u, hu, rfl⟩ := hc
      exact ⟨u, by simpa using hu, VR.cv x (allOne_mem h u (List.mem_of_getElem? hu))⟩
    · exact .any _
  · exact .any _
  · rename_i h1 h2
    refine .c _ _ (VR.cv x ?_)
    cases v <;> first | rfl | (exact absurd rfl (h1 _)) | (exact absurd rfl (h2 _))

theorem TR.get {x : Ctx} {T : List A} {vs : Array Value} (h : TR x T vs) (t : Nat) : VA x (gT T t) (vs.getD t undef) := by
  rw [gT_eq]
  cases hT : T[t]? with
  | none => exact .any _
  | some a =>
    obtain ⟨u, hu, hv⟩ := h.2 t a hT
    simp [Array.getD_eq_getD_getElem?, hu, hv]

theorem TR.eval {E : Env} {x : Ctx} {T : List A} {a : Act} (h : TR x T a.tmps) (hg : ∀ g, VR x (E.glob g) (.pointer (some ⟨g, 0, none⟩))) (o : Operand) : VA x (ev E T o) (a.eval o) := by
  cases o with
  | tmp t => exact h.get t
  | const v => exact VA.cv x v
  | global g => exact .c _ _ (hg g)
  | func f => exact .c _ _ (.clo _ [] #[] (fun _ => undef) rfl (fun i c hc => by simp at hc) (fun i c hc => by simp at hc))

theorem TR.put {x : Ctx} {T : List A} {a : Act} (h : TR x T a.tmps) (dst : Option Tmp) {v : A} {u : Value} (hv : VA x v u) : TR x (putT T dst v) (a.put dst u).tmps := by
  cases dst with
  | none => exact h
  | some d =>
    refine ⟨by simp [putT, Act.put, pT_length, h.1], fun i b hb => ?_⟩
    simp only [putT, pT_eq, List.getElem?_set] at hb
    simp only [Act.put, Array.getElem?_setIfInBounds]
    have hsz := h.1
    split at hb
    · rename_i e
      split at hb
      · rename_i hlt
        cases hb
        simp [e, hsz, hlt]
        subst e
        simp [hlt, hv]
      · cases hb
    · rename_i e
      rw [if_neg e]
      exact h.2 i b hb

def Yld (E : Env) (T : List A) (H : Heap) (o : Oper) (v : A) (H' : Heap) : Prop :=
  ∀ B x O (a : Act), B.ok E → Rel B x O H → TR x T a.tmps → ∃ n v' w', (execOp a.eval o).run E.P x.w = .ok n w' ∧ (n = .value v' ∨ n = .skip ∧ v' = undef) ∧
    ∃ x' O', x'.w = w' ∧ x.Le x' ∧ Rel B x' O' H' ∧ VA x' v v'

theorem Rel.glob {E : Env} {B : Base} {x : Ctx} {O : Nat → Nat → Prop} {H : Heap} (hB : B.ok E) (h : Rel B x O H) (g : Nat) : VR x (E.glob g) (.pointer (some ⟨g, 0, none⟩)) := (hB g).mono h.le

theorem Yld.same {E : Env} {T : List A} {H : Heap} {o : Oper} {v : A}
    (h : ∀ B x O (a : Act), Rel B x O H → TR x T a.tmps → (∀ y, VA x (ev E T y) (a.eval y)) → ∃ v', (execOp a.eval o).run E.P x.w = .ok (.value v') x.w ∧ VA x v v') : Yld E T H o v H := by
  intro B x O a hB hR hT
  obtain ⟨v', h1, h2⟩ := h B x O a hR hT (fun y => hT.eval (fun g => hR.glob hB g) y)
  exact ⟨_, v', x.w, h1, .inl rfl, x, O, rfl, .refl x, hR, h2⟩


def sv : A → Option Value
  | .c (.d (.sc v)) => some v
  | _ => none

theorem sv_eq {x : Ctx} {a : A} {v u : Value} (h : sv a = some v) (ha : VA x a u) : u = v ∧ one v = true := by
  unfold sv at h
  split at h
  · cases h
    cases ha with
    | c _ _ h => cases h with | d _ _ h => cases h with | sc _ h => exact ⟨rfl, h⟩
  · cases h

def sc (v : Value) : A := .c (.d (.sc v))
theorem VA.sc (x : Ctx) {v : Value} (h : one v = true) : VA x (sc v) v := .c _ _ (.d _ _ (.sc _ h))

def bl (s : ByteArray) : List UInt8 := s.data.toList
def st (l : List UInt8) : ByteArray := ⟨l.toArray⟩

def bin (op : BinOp) : Value → Value → Option Value
  | .int k a, .int k' b => if k = k' then
      match op with
      | .add => some (.int k (k.wrap (a + b)))
      | .sub => some (.int k (k.wrap (a - b)))
      | .mul => some (.int k (k.wrap (a * b)))
      | .quo => if b = 0 then none else some (.int k (k.wrap (a.tdiv b)))
      | .rem => if b = 0 then none else some (.int k (a.tmod b))
      | .eql => some (.bool (a == b))
      | .neq => some (.bool (a != b))
      | .lss => some (.bool (decide (a < b)))
      | .leq => some (.bool (decide (a ≤ b)))
      | .gtr => some (.bool (decide (a > b)))
      | .geq => some (.bool (decide (a ≥ b)))
      | _ => none
    else none
  | .string a, .string b =>
      match op with
      | .add => if (bl a).length + (bl b).length ≤ 9223372036854775807 then some (.string (st (bl a ++ bl b))) else none
      | .eql => some (.bool (bl a == bl b))
      | .neq => some (.bool (!(bl a == bl b)))
      | _ => none
  | _, _ => none

theorem toList_bl (s : ByteArray) : s.toList = bl s := by
  have key : ∀ (n i : Nat) (r : List UInt8), s.size - i = n → ByteArray.toList.loop s i r = r.reverse ++ (s.data.toList.drop i) := by
    intro n
    induction n with
    | zero =>
      intro i r h
      unfold ByteArray.toList.loop
      have h1 : ¬ i < s.size := by omega
      have h2 : s.data.toList.length ≤ i := by simp only [Array.length_toList]; have : s.data.size = s.size := rfl; omega
      simp [h1, List.drop_eq_nil_of_le h2]
    | succ n ih =>
      intro i r h
      have h1 : i < s.size := by omega
      have hs : s.data.size = s.size := rfl
      unfold ByteArray.toList.loop
      rw [if_pos h1, ih (i + 1) _ (by omega)]
      have h2 : i < s.data.toList.length := by simp only [Array.length_toList]; omega
      rw [List.drop_eq_getElem_cons h2]
      have h3 : s.get! i = s.data.toList[i] := by
        simp only [ByteArray.get!, Array.getElem_toList]
        exact getElem!_pos s.data i (by omega)
      simp [h3]
  have := key s.size 0 [] (by omega)
  simpa [ByteArray.toList, bl] using this

theorem size_bl (s : ByteArray) : s.size = (bl s).length := by simp [bl]
theorem st_bl (s : ByteArray) : st (bl s) = s := by simp [st, bl]
theorem bl_st (l : List UInt8) : bl (st l) = l := by simp [st, bl]
theorem append_st (a b : ByteArray) : a ++ b = st (bl a ++ bl b) := by
  apply ByteArray.ext
  simp [st, bl]

theorem bin_ok {E : Env} {op : BinOp} {xt : TypeId} {x y : Operand} {a b r : Value} (w : World) (h : bin op a b = some r) :
    (do eqGuard op xt x y a b; binOp op xt a b).run E.P w = .ok r w ∧ one r = true := by
  unfold bin at h
  split at h
  · split at h
    · rename_i hk
      subst hk
      have hg : ∀ k a b, eqGuard op xt x y (.int k a) (.int k b) = pure () := by intro k a b; simp [eqGuard]
      split at h <;> first | (cases h; done) | (simp only [Option.some.injEq] at h; subst h; exact ⟨by simp [hg, binOp, Op.intArith, Op.intCmp, Sem.run, go_sem], rfl⟩) | skip
      all_goals
        split at h
        · cases h
        · rename_i hb
          simp only [Option.some.injEq] at h
          subst h
          exact ⟨by simp [hg, binOp, Op.intDiv, hb], rfl⟩
    · cases h
  · rename_i a b
    have hg : eqGuard op xt x y (.string a) (.string b) = pure () := by simp [eqGuard]
    split at h
    · split at h
      · rename_i hle
        simp only [Option.some.injEq] at h
        subst h
        refine ⟨?_, rfl⟩
        have : ¬ (((a.size + b.size : Nat) : Int) > IntKind.i64.max) := by
          rw [size_bl, size_bl]; simp [IntKind.max, IntKind.signed, IntKind.bits]; omega
        simp only [hg, binOp, Op.stringOp, append_st, if_neg this]
        simp [go_sem]
      · cases h
    · simp only [Option.some.injEq] at h
      subst h
      exact ⟨by simp [hg, binOp, Op.stringOp, toList_bl, Sem.run, go_sem], rfl⟩
    · simp only [Option.some.injEq] at h
      subst h
      exact ⟨by simp [hg, binOp, Op.stringOp, toList_bl, Sem.run, go_sem], rfl⟩
    · cases h
  · cases h

end Go.Eng
namespace Go.Eng
open Go.RowKit
set_option linter.unusedVariables false
set_option linter.unusedSimpArgs false

def hG : Heap → Nat → Option Blk
  | [], _ => none
  | b :: _, 0 => b
  | _ :: l, n + 1 => hG l n

def hP : Heap → Nat → Option Blk → Heap
  | [], _, _ => []
  | _ :: l, 0, b => b :: l
  | a :: l, n + 1, b => a :: hP l n b

theorem hG_eq : ∀ (H : Heap) (i : Nat), hG H i = (H[i]?).join
  | [], _ => by simp [hG]
  | a :: l, 0 => by simp [hG]
  | a :: l, n + 1 => by simp [hG, hG_eq l n]

theorem hP_eq : ∀ (H : Heap) (i : Nat) (b : Option Blk), hP H i b = H.set i b
  | [], _, _ => by simp [hP]
  | a :: l, 0, _ => by simp [hP]
  | a :: l, n + 1, b => by simp [hP, hP_eq l n]

theorem hG_some {H : Heap} {i : Nat} {b : Blk} (h : hG H i = some b) : H[i]? = some (some b) := by
  rw [hG_eq] at h
  cases hi : H[i]? with
  | none => simp [hi] at h
  | some o => simp [hi] at h; rw [h]


def Env.size (E : Env) (t : TypeId) : Option Nat := (E.inf t).map (·.1)
def Env.agg (E : Env) (t : TypeId) : Option Bool := match E.und t with | some (.struct _) => some true | some (.array ..) => some true | some _ => some false | none => none
def Env.fld (E : Env) (t : TypeId) (f : Nat) : Option (Nat × TypeId) := match E.und t with | some (.struct fs) => (fs[f]?).map fun d => (d.offset, d.type) | _ => none
def Env.elt (E : Env) (t : TypeId) : Option TypeId := match E.und t with | some (.slice e) => some e | _ => none
def Env.arr (E : Env) (t : TypeId) : Option (Nat × TypeId) := match E.und t with | some (.array n e) => some (n, e) | _ => none
def Env.kind (E : Env) (t : TypeId) : Option IntKind := match E.und t with | some (.int k) => some k | _ => none
def Env.str (E : Env) (t : TypeId) : Bool := match E.und t with | some .string => true | _ => false
def Env.bln (E : Env) (t : TypeId) : Bool := match E.und t with | some .bool => true | _ => false
def Env.ptr (E : Env) (t : TypeId) : Bool := match E.und t with | some (.pointer _) => true | _ => false

section
variable {E : Env}
theorem Env.size_run {t : TypeId} {n : Nat} (h : E.size t = some n) (w : World) : (sizeOf t).run E.P w = .ok n w := by
  unfold Env.size at h
  simp only [Option.map_eq_some_iff] at h
  obtain ⟨⟨s, b, z⟩, h1, rfl⟩ := h
  obtain ⟨i, hi, hs, _, _⟩ := E.hinf _ _ _ _ h1
  simp [sizeOf, typeInfo, hi, hs]
theorem und_run {t : TypeId} {d : TypeDesc} (h : E.und t = some d) (w : World) : (underlying t).run E.P w = .ok d w := run_underlying (E.hund _ _ h) w
theorem Env.agg_run {t : TypeId} {b : Bool} (h : E.agg t = some b) (w : World) : (isAgg t).run E.P w = .ok b w := by
  unfold Env.agg at h
  split at h <;> simp only [Option.some.injEq, reduceCtorEq] at h <;> rename_i hu <;> try subst h
  · simp [isAgg, und_run hu]
  · simp [isAgg, und_run hu]
  · simp only [isAgg, Sem.run_bind, und_run hu, Result.andThen_ok]
    simp
end


def cutC : Nat → Nat → List C → Option (List C)
  | 0, 0, _ => some []
  | 0, n + 1, c :: l => match cutC 0 n l with | some r => some (c :: r) | none => none
  | o + 1, n, _ :: l => cutC o n l
  | _, _, _ => none

theorem cutC_get : ∀ {o n : Nat} {l r : List C}, cutC o n l = some r → r.length = n ∧ o + n ≤ l.length ∧ ∀ i, i < n → r[i]? = l[o + i]?
  | 0, 0, l, r, h => by simp [cutC] at h; subst h; simp
  | 0, n + 1, [], r, h => by simp [cutC] at h
  | 0, n + 1, c :: l, r, h => by
    simp only [cutC] at h
    split at h
    · rename_i r' h'
      cases h
      obtain ⟨h1, h2, h3⟩ := cutC_get h'
      refine ⟨by simp [h1], by simp; omega, fun i hi => ?_⟩
      cases i with
      | zero => simp
      | succ i => have := h3 i (by omega); simpa [Nat.add_comm, Nat.add_left_comm] using this
    · cases h
  | o + 1, n, [], r, h => by simp [cutC] at h
  | o + 1, n, c :: l, r, h => by
    simp only [cutC] at h
    obtain ⟨h1, h2, h3⟩ := cutC_get h
    refine ⟨h1, by simp; omega, fun i hi => ?_⟩
    rw [h3 i hi, show o + 1 + i = (o + i) + 1 by omega, List.getElem?_cons_succ]

def partC (b : Bool) (n o : Nat) (l : List C) : Option A :=
  if b then match cutC o n l with | some r => some (.agg r) | none => none
  else match cutC o 1 l with | some [c] => some (.c c) | _ => none

theorem partC_run {E : Env} {x : Ctx} {t : TypeId} {b : Bool} {n o : Nat} {cs : List C} {vs : Array Value} {v : A} (hb : E.agg t = some b) (hn : E.size t = some n) (h : partC b n o cs = some v)
    (hv : CsR x cs vs) (w : World) : ∃ u, (part t vs o).run E.P w = .ok u w ∧ VA x v u := by
  unfold partC at h
  split at h
  · rename_i hb'
    subst hb'
    split at h
    · rename_i r hr
      cases h
      obtain ⟨h1, h2, h3⟩ := cutC_get hr
      refine ⟨.agg (vs.extract o (o + n)), by simp [part, Env.agg_run hb, Env.size_run hn], .agg _ _ ⟨by simp [h1, hv.1]; omega, fun i c hc => ?_⟩⟩
      have hi : i < n := by have := (List.getElem?_eq_some_iff.1 hc).1; omega
      rw [h3 i hi] at hc
      obtain ⟨u, hu, hr⟩ := hv.2 _ _ hc
      refine ⟨u, ?_, hr⟩
      have hlt : o + i < vs.size := (Array.getElem?_eq_some_iff.1 hu).1
      simp only [Array.getElem?_extract]
      rw [if_pos (by omega)]
      exact hu
    · cases h
  · rename_i hb'
    simp only [Bool.not_eq_true] at hb'
    subst hb'
    split at h
    · rename_i c hr
      cases h
      obtain ⟨h1, h2, h3⟩ := cutC_get hr
      have hc := h3 0 (by omega)
      simp only [List.getElem?_cons_zero, Nat.add_zero] at hc
      obtain ⟨u, hu, hr⟩ := hv.2 _ _ hc.symm
      exact ⟨u, by simp [part, Env.agg_run hb, hu], .c _ _ hr⟩
    · cases h



def datas (l : List D) : List C := l.map .d

def rowsAt (rs : List (List D)) (i : Nat) : List D := rs.getD i []

def seenAt (H : Heap) : A → Option (List C × Nat)
  | .c (.ptr id j off n) => match hG H id with
    | some (.box cs _) => if j = 0 ∧ n = 0 then some (cs, off) else none
    | some (.rows s rs _) => if n = rs.length ∧ j < rs.length then some (datas (rowsAt rs j), off) else none
    | _ => none
  | .c (.pf cs off) => some (datas cs, off)
  | _ => none

theorem CsR.get {x : Ctx} {cs : List C} {vs : Array Value} (h : CsR x cs vs) {i : Nat} (hi : i < cs.length) : ∃ u, vs[i]? = some u ∧ VR x cs[i] u := by
  obtain ⟨u, h1, h2⟩ := h.2 i cs[i] (List.getElem?_eq_getElem hi)
  exact ⟨u, h1, h2⟩

theorem seenAt_ok {B : Base} {x : Ctx} {O : Nat → Nat → Prop} {H : Heap} (hR : Rel B x O H) {a : A} {v : Value} (ha : VA x a v) {cs : List C} {off : Nat} (h : seenAt H a = some (cs, off)) :
    ∃ b o, v = .pointer (some ⟨b, o + off, none⟩) ∧ ∀ i c, cs[i]? = some c → ∃ u, x.w.cell? ⟨b, o + i, none⟩ = some u ∧ VR x c u := by
  unfold seenAt at h
  split at h
  · rename_i id j o' n
    cases ha with
    | c _ _ ha => cases ha with | ptr _ _ _ _ _ ha =>
    obtain ⟨_, hL, ha⟩ := ha
    split at h
    · rename_i cs' hb
      split at h
      · rename_i hj
        obtain ⟨rfl, rfl⟩ := hj
        simp only [Option.some.injEq, Prod.mk.injEq] at h
        obtain ⟨rfl, rfl⟩ := h
        have hb' := hG_some hb
        obtain ⟨_, h2⟩ := ha 0 0 (by rw [hR.hN]; simp [nOf, hb'])
        obtain ⟨b, lo, hμ, hlo, hv⟩ := h2 rfl
        rw [if_neg (by omega)] at hv
        subst hv
        obtain ⟨b', vs, t, hμ', _, hh, hcs⟩ := hR.blk _ _ hb'
        rw [hμ'] at hμ
        cases hμ
        refine ⟨b, 0, by simp, fun i c hc => ?_⟩
        obtain ⟨u, hu, hv⟩ := hcs.2 i c hc
        refine ⟨u, ?_, hv⟩
        simp only [World.cell?, hh]
        simpa using hu
      · cases h
    · rename_i s rs tyB hb
      split at h
      · rename_i hj
        obtain ⟨rfl, hj⟩ := hj
        simp only [Option.some.injEq, Prod.mk.injEq] at h
        obtain ⟨rfl, rfl⟩ := h
        have hb' := hG_some hb
        obtain ⟨_, h2⟩ := ha s rs.length (by rw [hR.hN]; simp [nOf, hb'])
        obtain ⟨b, lo, hμ, hlo, hv⟩ := h2 rfl
        obtain ⟨hs, hrs, hbk⟩ := hR.blk _ _ hb'
        rw [if_neg (by omega)] at hv
        subst hv
        rcases hbk with ⟨hn, _⟩ | ⟨b', lo', vs, t, hμ', _, hh, hl, _, hcs⟩
        · rw [hn] at hμ; cases hμ
        · rw [hμ'] at hμ
          cases hμ
          refine ⟨b, (j - lo) * s, rfl, fun i c hc => ?_⟩
          simp only [datas, rowsAt, List.getElem?_map, Option.map_eq_some_iff] at hc
          obtain ⟨d, hd, rfl⟩ := hc
          have hrow : rs[j]? = some (rs.getD j []) := by simp [List.getD, List.getElem?_eq_getElem hj]
          obtain ⟨u, hu, hv⟩ := hcs j _ i d hlo hrow hd
          refine ⟨u, ?_, .d _ _ hv⟩
          simp only [World.cell?, hh]
          simpa using hu
      · cases h
    · cases h
  · rename_i cells o'
    simp only [Option.some.injEq, Prod.mk.injEq] at h
    obtain ⟨rfl, rfl⟩ := h
    cases ha with
    | c _ _ ha => cases ha with | pf _ _ b o hF hc =>
    refine ⟨b, o, rfl, fun i c hi => ?_⟩
    simp only [datas, List.getElem?_map, Option.map_eq_some_iff] at hi
    obtain ⟨d, hd, rfl⟩ := hi
    obtain ⟨u, hu, hv⟩ := hc i d hd
    exact ⟨u, hu, .d _ _ hv⟩
  · cases h

def aLoad (E : Env) (H : Heap) (t : TypeId) (a : A) : Option A :=
  match seenAt H a with
  | some (cs, off) => match E.agg t, E.size t with
    | some b, some n => partC b n off cs
    | _, _ => none
  | none => none

theorem aLoad_ok {E : Env} {B : Base} {x : Ctx} {O : Nat → Nat → Prop} {H : Heap} (hR : Rel B x O H) {t : TypeId} {a v : A} {u : Value} (ha : VA x a u) (h : aLoad E H t a = some v) :
    ∃ r, (Instr.loadAt t u).run E.P x.w = .ok r x.w ∧ VA x v r := by
  unfold aLoad at h
  split at h
  · rename_i cs off hs
    obtain ⟨b, o, rfl, hc⟩ := seenAt_ok hR ha hs
    split at h
    · rename_i g n hg hn
      have hadd : ∀ i, (⟨b, o + off, none⟩ : Addr).add i = ⟨b, o + off + i, none⟩ := fun i => by unfold Addr.add; split <;> simp_all
      unfold partC at h
      split at h
      · rename_i hb
        subst hb
        split at h
        · rename_i r hr
          cases h
          obtain ⟨h1, h2, h3⟩ := cutC_get hr
          have key : ∀ i, i < n → ∃ u, x.w.cell? ⟨b, o + off + i, none⟩ = some u ∧ ∀ c, r[i]? = some c → VR x c u := fun i hi => by
            have hlt : off + i < cs.length := by omega
            obtain ⟨u, hu, hv⟩ := hc (off + i) _ (List.getElem?_eq_getElem hlt)
            refine ⟨u, by rw [Nat.add_assoc]; exact hu, fun c hc' => ?_⟩
            rw [h3 i hi, List.getElem?_eq_getElem hlt] at hc'
            cases hc'
            exact hv
          let f : Nat → Value := fun i => (x.w.cell? ⟨b, o + off + i, none⟩).getD undef
          have hf : ∀ i, i < n → x.w.cell? ((⟨b, o + off, none⟩ : Addr).add i) = some (f i) := fun i hi => by
            obtain ⟨u, hu, _⟩ := key i hi
            rw [hadd, hu]; simp [f, hu]
          refine ⟨.agg ((List.range n).map f).toArray, ?_, .agg _ _ ⟨by simp [h1], fun i c hi => ?_⟩⟩
          · simp [Instr.loadAt, Instr.sureAddr, loadVar, Env.agg_run hg, Env.size_run hn, run_loadCells x.w _ n f hf]
          · have hi' : i < n := by have := (List.getElem?_eq_some_iff.1 hi).1; omega
            obtain ⟨u, hu, hv⟩ := key i hi'
            exact ⟨u, by simp [hi', f, hu], hv c hi⟩
        · cases h
      · rename_i hb
        simp only [Bool.not_eq_true] at hb
        subst hb
        split at h
        · rename_i c hr
          cases h
          obtain ⟨h1, h2, h3⟩ := cutC_get hr
          have hc' := h3 0 (by omega)
          simp only [List.getElem?_cons_zero, Nat.add_zero] at hc'
          obtain ⟨u, hu, hv⟩ := hc off c hc'.symm
          exact ⟨u, by simp [Instr.loadAt, Instr.sureAddr, loadVar, Env.agg_run hg, hu], .c _ _ hv⟩
        · cases h
    · cases h
  · cases h

end Go.Eng
namespace Go.Eng
open Go.RowKit
set_option linter.unusedVariables false
set_option linter.unusedSimpArgs false

def selA : Bool → A → A → A
  | true, a, _ => a
  | false, _, b => b

def ofBool : A → Option Bool
  | .c (.d (.sc (.bool b))) => some b
  | _ => none

theorem ofBool_eq {x : Ctx} {a : A} {b : Bool} {u : Value} (h : ofBool a = some b) (ha : VA x a u) : u = .bool b := by
  unfold ofBool at h
  split at h
  · cases h
    cases ha with | c _ _ h => cases h with | d _ _ h => cases h with | sc _ h => rfl
  · cases h

def aField (E : Env) (t : TypeId) (f : Nat) : A → Option A
  | .agg cs => match E.fld t f with
    | some (off, ft) => match E.agg ft, E.size ft with
      | some b, some n => partC b n off cs
      | _, _ => none
    | none => none
  | _ => none

def aExtract (i : Nat) : A → Option A
  | .tup l => l[i]?
  | _ => none

def livePtr (H : Heap) (id n : Nat) : Bool := match hG H id with | some (.box _ _) => n == 0 | some (.rows _ rs _) => n == rs.length | _ => false
def live (H : Heap) : A → Bool
  | .c (.ptr id _ _ n) => livePtr H id n
  | .c (.pf _ _) => true
  | .c (.pa _) => true
  | _ => false

def aFieldAddr (E : Env) (H : Heap) (t : TypeId) (f : Nat) (a : A) : Option A :=
  match E.fld t f with
  | some (off, ft) => match E.size ft with
    | some (_ + 1) => match a with
      | .c (.ptr id j o n) => if livePtr H id n = true then some (.c (.ptr id j (o + off) n)) else none
      | .c (.pf cs o) => some (.c (.pf cs (o + off)))
      | _ => none
    | _ => none
  | none => none

def aIndexAddr (E : Env) (H : Heap) (t : TypeId) (a i : A) : Option A :=
  match sv i with
  | some (.int _ i) => match a with
    | .c (.d (.fz rs)) => match E.elt t with
      | some e => if 0 ≤ i ∧ i.toNat < rs.length ∧ E.size e = some (rowsAt rs i.toNat).length then some (.c (.pf (rowsAt rs i.toNat) 0)) else none
      | none => none
    | .c (.own id off len n) => match hG H id, E.elt t with
      | some (.rows s rs _), some e => if 0 ≤ i ∧ i.toNat < len ∧ n = rs.length ∧ E.size e = some s then some (.c (.ptr id (off + i.toNat) 0 n)) else none
      | _, _ => none
    | .c (.pa rs) => match E.arr t with
      | some (m, e) => if 0 ≤ i ∧ i.toNat < rs.length ∧ m = rs.length ∧ E.size e = some (rowsAt rs i.toNat).length then some (.c (.pf (rowsAt rs i.toNat) 0)) else none
      | none => none
    | _ => none
  | _ => none

def byteAt (l : List UInt8) (i : Nat) : Int := ((l.getD i 0).toNat : Int)

def aIndex (E : Env) (t : TypeId) (a i : A) : Option A :=
  match sv i, sv a with
  | some (.int _ i), some (.string s) => if E.str t = true ∧ 0 ≤ i ∧ i.toNat < (bl s).length then some (sc (.int .u8 (byteAt (bl s) i.toNat))) else none
  | some (.int _ i), none => match a, E.arr t with
    | .agg cs, some (n, e) => match E.agg e, E.size e with
      | some b, some s => if 0 ≤ i ∧ i.toNat < n then partC b s (i.toNat * s) cs else none
      | _, _ => none
    | _, _ => none
  | _, _ => none

def lenA (H : Heap) : A → Option Nat
  | .c (.d (.fz rs)) => some rs.length
  | .c .nils => some 0
  | .c (.own id off len n) => match hG H id with | some (.rows s rs _) => if n = rs.length then some len else none | _ => none
  | _ => none

def aLen (E : Env) (H : Heap) (t : TypeId) (a : A) : Option A :=
  match E.und t with
  | some (.slice _) => match lenA H a with | some n => some (sc (.int .i64 n)) | none => none
  | some .string => match sv a with | some (.string s) => some (sc (.int .i64 (bl s).length)) | _ => none
  | some (.array n _) => some (sc (.int .i64 n))
  | _ => none

def aUn (op : UnOp) (a : A) : Option A :=
  match op, sv a with
  | .not, some (.bool b) => some (sc (.bool (!b)))
  | .neg, some (.int k n) => some (sc (.int k (k.wrap (0 - n))))
  | _, _ => none

def aConv (E : Env) (src dst : TypeId) (a : A) : Option A :=
  match E.und src, E.und dst, sv a with
  | some (.int _), some (.int k), some (.int _ n) => some (sc (.int k (k.wrap n)))
  | some (.int _), some .string, some (.int _ n) => some (sc (.string (Utf8.encode n)))
  | some .string, some .string, some (.string s) => some (sc (.string s))
  | _, _, _ => none

def aNil (H : Heap) (a : A) : Option A :=
  match a with
  | .c (.clo (.func f) cs) => some (.c (.clo (.func f) cs))
  | a => if live H a = true then some a else none

def eqlOf (op : BinOp) (b : Bool) : Option A :=
  match op with
  | .eql => some (sc (.bool b))
  | .neq => some (sc (.bool (!b)))
  | _ => none

def eqInts : List C → List C → Option Bool
  | [], [] => some true
  | .d (.sc (.int k a)) :: l, .d (.sc (.int k' b)) :: r => if k = k' then match eqInts l r with | some e => some (a == b && e) | none => none else none
  | _, _ => none

def eqAgg (op : BinOp) (n : Nat) (l r : List C) : Option Bool → Option A
  | some b => if l.length = n ∧ r.length = n then eqlOf op b else none
  | none => none

def aEqS (E : Env) (op : BinOp) (t : TypeId) : A → A → Option A
  | .agg l, .agg r => match E.seq t with | some n => eqAgg op n l r (eqInts l r) | none => none
  | _, _ => none

def aBin (E : Env) (H : Heap) (op : BinOp) (t : TypeId) (a b : A) : Option A :=
  match sv a, sv b with
  | some (.bool p), some (.bool q) => if E.bln t = true then eqlOf op (p == q) else none
  | some (.pointer none), some (.pointer none) => if E.ptr t = true then eqlOf op true else none
  | some u, some v => (bin op u v).map sc
  | none, some (.pointer none) => if E.ptr t = true ∧ live H a = true then eqlOf op false else none
  | some (.pointer none), none => if E.ptr t = true ∧ live H b = true then eqlOf op false else none
  | none, none => aEqS E op t a b
  | _, _ => none

end Go.Eng
namespace Go.Eng
open Go.RowKit
set_option linter.unusedVariables false
set_option linter.unusedSimpArgs false

section
variable {E : Env} {B : Base} {x : Ctx} {O : Nat → Nat → Prop} {H : Heap}

theorem ptr_ok (hR : Rel B x O H) {id j off n : Nat} {v : Value} (ha : PtrR x id j off n v) (h : livePtr H id n = true) :
    ∃ s b lo, x.N id = some (s, n) ∧ x.μ id = some (b, lo) ∧ lo ≤ j ∧ v = .pointer (some ⟨b, (j - lo) * s + off, none⟩) ∧ ¬ (s = 0 ∧ n = 1) := by
  have hp : ∃ s, x.N id = some (s, n) ∧ ¬ (s = 0 ∧ n = 1) := by
    unfold livePtr at h
    split at h
    · rename_i cs hb
      have := beq_iff_eq.1 h
      exact ⟨0, by rw [hR.hN]; simp [nOf, hG_some hb]; omega, by omega⟩
    · rename_i s rs tyB hb
      have := (hR.blk _ _ (hG_some hb)).1
      exact ⟨s, by rw [hR.hN]; simp [nOf, hG_some hb]; exact (beq_iff_eq.1 h).symm, by omega⟩
    · cases h
  obtain ⟨s, hN, hne⟩ := hp
  obtain ⟨b, lo, h1, h2, h3⟩ := (ha.2.2 s n hN).2 rfl
  rw [if_neg hne] at h3
  exact ⟨s, b, lo, hN, h1, h2, h3, hne⟩

theorem live_ok (hR : Rel B x O H) {a : A} {v : Value} (ha : VA x a v) (h : live H a = true) : ∃ p, v = .pointer (some p) := by
  unfold live at h
  split at h
  · rename_i id j off n
    cases ha with | c _ _ ha => cases ha with | ptr _ _ _ _ _ ha =>
    obtain ⟨s, b, lo, _, _, _, rfl, _⟩ := ptr_ok hR ha h
    exact ⟨_, rfl⟩
  · cases ha with | c _ _ ha => cases ha with | pf _ _ b o _ _ => exact ⟨_, rfl⟩
  · cases ha with | c _ _ ha => cases ha with | pa _ b o _ _ _ => exact ⟨_, rfl⟩
  · cases h

theorem aField_ok {t : TypeId} {f : Nat} {a v : A} {u : Value} (ha : VA x a u) (h : aField E t f a = some v) (w : World) :
    ∃ r, (Instr.field t u f).run E.P w = .ok r w ∧ VA x v r := by
  unfold aField at h
  split at h
  · rename_i cs
    split at h
    · rename_i off ft hf
      split at h
      · rename_i b n hb hn
        cases ha with | agg _ vs hv =>
        obtain ⟨r, hr, hvr⟩ := partC_run hb hn h hv w
        refine ⟨r, ?_, hvr⟩
        unfold Env.fld at hf
        split at hf
        · rename_i fs hu
          simp only [Option.map_eq_some_iff, Prod.mk.injEq] at hf
          obtain ⟨d, hd, rfl, rfl⟩ := hf
          simp [Instr.field, und_run hu, hd, asAgg, hr]
        · cases hf
      · cases h
    · cases h
  · cases h

theorem add_off (b o n : Nat) : (⟨b, o, none⟩ : Addr).add n = ⟨b, o + n, none⟩ := by unfold Addr.add; split <;> simp_all

theorem fieldAt_run {t : TypeId} {f off ft : Nat} {n : Nat} (hf : E.fld t f = some (off, ft)) (hn : E.size ft = some (n + 1)) (b o : Nat) (w : World) :
    (Instr.fieldAt t (.pointer (some ⟨b, o, none⟩)) f).run E.P w = .ok (.pointer (some ⟨b, o + off, none⟩)) w := by
  unfold Env.fld at hf
  split at hf
  · rename_i fs hu
    simp only [Option.map_eq_some_iff, Prod.mk.injEq] at hf
    obtain ⟨d, hd, rfl, rfl⟩ := hf
    simp [Instr.fieldAt, und_run hu, hd, Instr.sureAddr, fieldPlace, Env.size_run hn, add_off]
  · cases hf

theorem aFieldAddr_ok {t : TypeId} {f : Nat} {a v : A} {u : Value} (hR : Rel B x O H) (ha : VA x a u) (h : aFieldAddr E H t f a = some v) (w : World) :
    ∃ r, (Instr.fieldAt t u f).run E.P w = .ok r w ∧ VA x v r := by
  unfold aFieldAddr at h
  split at h
  · rename_i off ft hf
    split at h
    · rename_i n hn
      split at h
      · rename_i id j o m
        split at h
        · rename_i hl
          cases h
          cases ha with | c _ _ ha => cases ha with | ptr _ _ _ _ _ ha =>
          obtain ⟨s, b, lo, hN, hμ, hlo, rfl, hne⟩ := ptr_ok hR ha hl
          refine ⟨_, fieldAt_run hf hn _ _ w, .c _ _ (.ptr _ _ _ _ _ ⟨rfl, ha.2.1, fun s' m' hN' => ?_⟩)⟩
          rw [hN] at hN'
          cases hN'
          exact ⟨Nat.le_refl _, fun _ => ⟨b, lo, hμ, hlo, by rw [if_neg hne, Nat.add_assoc]⟩⟩
        · cases h
      · rename_i cs o
        cases h
        cases ha with | c _ _ ha => cases ha with | pf _ _ b o' hF hc =>
        refine ⟨_, fieldAt_run hf hn _ _ w, .c _ _ ?_⟩
        have := VR.pf (x := x) cs (o + off) b o' hF hc
        rwa [← Nat.add_assoc] at this
      · cases h
    · cases h
  · cases h

theorem aIndex_ok {t : TypeId} {a i v : A} {u k : Value} (ha : VA x a u) (hi : VA x i k) (h : aIndex E t a i = some v) (w : World) :
    ∃ r, (Instr.index t u k).run E.P w = .ok r w ∧ VA x v r := by
  unfold aIndex at h
  split at h
  · rename_i ik n s h1 h2
    obtain ⟨rfl, _⟩ := sv_eq h1 hi
    obtain ⟨rfl, _⟩ := sv_eq h2 ha
    split at h
    · rename_i hc
      obtain ⟨hs, h0, hlt⟩ := hc
      cases h
      refine ⟨_, ?_, VA.sc x rfl⟩
      have hu : E.und t = some .string := by
        unfold Env.str at hs
        split at hs
        · assumption
        · cases hs
      have hb : s[n.toNat]? = some ((bl s).getD n.toNat 0) := by
        have h3 : n.toNat < s.data.size := by simpa [bl] using hlt
        have h4 : n.toNat < s.size := h3
        simp [getElem?_pos, h4, bl, List.getD, h3]
        rfl
      simp only [Instr.index, Sem.run_bind, asIntOf, und_run hu, Result.andThen_ok, Sem.run_pure]
      simp [h0, hb, byteAt]
    · cases h
  · rename_i ik n h1 h2
    obtain ⟨rfl, _⟩ := sv_eq h1 hi
    split at h
    · rename_i cs m e ht
      split at h
      · rename_i b s hb hs
        split at h
        · rename_i hc
          obtain ⟨h0, hlt⟩ := hc
          cases ha with | agg _ vs hv =>
          obtain ⟨r, h3, h4⟩ := partC_run hb hs h hv w
          refine ⟨r, ?_, h4⟩
          have hu : E.und t = some (.array m e) := by
            unfold Env.arr at ht
            split at ht
            · cases ht; assumption
            · cases ht
          simp only [Instr.index, Sem.run_bind, asIntOf, und_run hu, Result.andThen_ok, Sem.run_pure]
          rw [if_pos ⟨h0, by omega⟩]
          simp only [Sem.run_bind, Env.size_run hs, Result.andThen_ok, h3]
        · cases h
      · cases h
    · cases h
  · cases h

theorem lenA_ok (hR : Rel B x O H) {a : A} {v : Value} {n : Nat} (ha : VA x a v) (h : lenA H a = some n) : ∃ p cap, v = .slice p n cap := by
  unfold lenA at h
  split at h
  · cases h
    cases ha with | c _ _ ha => cases ha with | d _ _ ha => cases ha with
    | nil a cap => exact ⟨_, _, rfl⟩
    | fz => exact ⟨_, _, rfl⟩
  · cases h
    cases ha with | c _ _ ha => cases ha with | nils => exact ⟨_, _, rfl⟩
  · rename_i id off len m
    cases ha with | c _ _ ha => cases ha with | own _ _ _ _ _ ha =>
    split at h
    · rename_i s rs tyB hb
      split at h
      · rename_i hm
        cases h
        obtain ⟨_, hc⟩ := ha.2.2 s rs.length (by rw [hR.hN]; simp [nOf, hG_some hb])
        have := hc hm
        split at this
        · obtain ⟨rfl, rfl, rfl, _⟩ := this; exact ⟨_, _, rfl⟩
        · obtain ⟨p, cap, sz, rfl, _⟩ := this; exact ⟨_, _, rfl⟩
      · cases h
    · cases h
  · cases h

theorem aLen_ok (hR : Rel B x O H) {t ty : TypeId} {a v : A} {u : Value} (ha : VA x a u) (h : aLen E H t a = some v) (w : World) :
    ∃ r, (Builtin.len_ #[t] ty #[u]).run E.P w = .ok r w ∧ VA x v r := by
  unfold aLen at h
  split at h
  · rename_i e hu
    split at h
    · rename_i n hn
      cases h
      obtain ⟨p, cap, rfl⟩ := lenA_ok hR ha hn
      exact ⟨_, by simp [Builtin.len_, und_run hu, goInt, size_bl], VA.sc x rfl⟩
    · cases h
  · rename_i hu
    split at h
    · rename_i s hs
      cases h
      obtain ⟨rfl, _⟩ := sv_eq hs ha
      exact ⟨_, by simp [Builtin.len_, und_run hu, goInt, size_bl], VA.sc x rfl⟩
    · cases h
  · rename_i n e hu
    cases h
    exact ⟨_, by simp [Builtin.len_, und_run hu, goInt, size_bl], VA.sc x rfl⟩
  · cases h

theorem aUn_ok {op : UnOp} {a v : A} {u : Value} (ha : VA x a u) (h : aUn op a = some v) (w : World) : ∃ r, (Op.unary op u).run E.P w = .ok r w ∧ VA x v r := by
  unfold aUn at h
  split at h
  · rename_i b hs
    cases h
    obtain ⟨rfl, _⟩ := sv_eq hs ha
    exact ⟨_, by simp [Op.unary], VA.sc x rfl⟩
  · rename_i k n hs
    cases h
    obtain ⟨rfl, _⟩ := sv_eq hs ha
    exact ⟨_, by simp [Op.unary, Op.intArith], VA.sc x rfl⟩
  · cases h

theorem aConv_ok {src dst : TypeId} {a v : A} {u : Value} (ha : VA x a u) (h : aConv E src dst a = some v) (w : World) : ∃ r, (convert src dst u).run E.P w = .ok r w ∧ VA x v r := by
  unfold aConv at h
  split at h <;> rename_i h1 h2 h3 <;> first | (cases h; done) | skip
  all_goals
    cases h
    obtain ⟨rfl, _⟩ := sv_eq h3 ha
    exact ⟨_, by simp [convert, und_run h1, und_run h2, Conv.intToInt, Conv.intToString], VA.sc x rfl⟩

theorem equal_bool {t : TypeId} (h : E.und t = some .bool) (a b : Bool) (w : World) : (Op.equal t (.bool a) (.bool b)).run E.P w = .ok (a == b) w := by
  show (Op.equalIn (9999 + 1) t _ _).run E.P w = _
  unfold Op.equalIn
  simp only [Sem.run_bind, und_run h, Result.andThen_ok, Sem.run_pure]
theorem equal_nil {t e : TypeId} (h : E.und t = some (.pointer e)) (b : Option Addr) (w : World) : (Op.equal t (.pointer none) (.pointer b)).run E.P w = .ok b.isNone w := by
  show (Op.equalIn (9999 + 1) t _ _).run E.P w = _
  unfold Op.equalIn
  simp only [Sem.run_bind, und_run h, Result.andThen_ok, Sem.run_pure]
theorem equal_nil' {t e : TypeId} (h : E.und t = some (.pointer e)) (b : Addr) (w : World) : (Op.equal t (.pointer (some b)) (.pointer none)).run E.P w = .ok false w := by
  show (Op.equalIn (9999 + 1) t _ _).run E.P w = _
  unfold Op.equalIn
  simp only [Sem.run_bind, und_run h, Result.andThen_ok, Sem.run_pure]

theorem eqlOf_ok {op : BinOp} {t : TypeId} {b : Bool} {v : A} {p q : Value} {w : World} (h : eqlOf op b = some v) (he : (Op.equal t p q).run E.P w = .ok b w)
    (h1 : binOp .eql t p q = (do pure (.bool (← Op.equal t p q)))) (h2 : binOp .neq t p q = (do pure (.bool (!(← Op.equal t p q))))) :
    ∃ r, (binOp op t p q).run E.P w = .ok r w ∧ VA x v r := by
  unfold eqlOf at h
  split at h
  · cases h; exact ⟨_, by rw [h1]; simp [he], VA.sc x rfl⟩
  · cases h; exact ⟨_, by rw [h2]; simp [he], VA.sc x rfl⟩
  · cases h

theorem eqInts_ok {t : TypeId} : ∀ {l r : List C} {b : Bool} (fs : List Field) (i : Nat) {xs ys : Array Value}, eqInts l r = some b → fs.length = l.length →
    (∀ (j : Nat) f, fs[j]? = some f → f.name ≠ "_" ∧ f.offset = i + j ∧ ∃ k d, E.P.underlying f.type = some (.int k) ∧ E.P.info? f.type = some d) →
    (∀ (j : Nat) c, l[j]? = some c → ∃ u, xs[i + j]? = some u ∧ VR x c u) → (∀ (j : Nat) c, r[j]? = some c → ∃ u, ys[i + j]? = some u ∧ VR x c u) → ∀ w,
    (Op.eqFields 9999 xs ys fs).run E.P w = .ok b w := by
  intro l
  induction l with
  | nil =>
    intro r b fs i xs ys h hl _ _ _ w
    cases fs with
    | nil =>
      cases r with
      | nil => cases h; simp [Op.eqFields]
      | cons => simp [eqInts] at h
    | cons => simp at hl
  | cons c l ih =>
    intro r b fs i xs ys h hl hf hx hy w
    cases fs with
    | nil => simp at hl
    | cons f fs =>
      unfold eqInts at h
      split at h
      · exact absurd ‹c :: l = []› (by simp)
      · rename_i k a l' k' b' r' h1
        cases h1
        split at h
        · rename_i hk
          subst hk
          split at h
          · rename_i e he
            cases h
            obtain ⟨hn, ho, kk, d, hu, hi⟩ := hf 0 f rfl
            obtain ⟨u, hu1, hv1⟩ := hx 0 _ rfl
            obtain ⟨u', hu2, hv2⟩ := hy 0 _ rfl
            obtain rfl : u = .int k a := by cases hv1 with | d _ _ h => cases h; rfl
            obtain rfl : u' = .int k b' := by cases hv2 with | d _ _ h => cases h; rfl
            have hpt : ∀ (vs : Array Value) v, vs[i + 0]? = some v → (part f.type vs f.offset).run E.P w = .ok v w := fun vs v hv => by
              have : (isAgg f.type).run E.P w = .ok false w := by simp [isAgg, run_underlying hu]
              simp only [part, Sem.run_bind, this, Result.andThen_ok, Bool.false_eq_true, if_false, ho, hv, Sem.run_pure]
            have ih' := ih (r := r') fs (i + 1) (xs := xs) (ys := ys) he (by simpa using hl) (fun j g hg => by have := hf (j + 1) g (by simpa using hg); rwa [show i + (j + 1) = i + 1 + j by omega] at this)
              (fun j c hc => by have := hx (j + 1) c (by simpa using hc); rwa [show i + (j + 1) = i + 1 + j by omega] at this)
              (fun j c hc => by have := hy (j + 1) c (by simpa using hc); rwa [show i + (j + 1) = i + 1 + j by omega] at this) w
            unfold Op.eqFields
            rw [if_pos hn]
            simp only [Sem.run_bind, hpt _ _ hu1, hpt _ _ hu2, Result.andThen_ok, run_equalIn_int w 9998 f.type k kk a b' hu]
            cases hab : (a == b') <;> simp [hab, ih']
          · cases h
        · cases h
      · cases h

theorem aEqS_ok {op : BinOp} {t : TypeId} {a b v : A} {p q : Value} {X Y : Operand} (ha : VA x a p) (hb : VA x b q) (h : aEqS E op t a b = some v) (w : World) :
    ∃ r, (do eqGuard op t X Y p q; binOp op t p q).run E.P w = .ok r w ∧ VA x v r := by
  unfold aEqS at h
  split at h
  · rename_i l r
    split at h
    · rename_i n hs
      unfold eqAgg at h
      split at h
      · rename_i bb he
        split at h
        · rename_i hl
          obtain ⟨h1, h2, h3, h4, h5⟩ := E.hseq t n hs
          cases ha with | agg _ xs hxs =>
          cases hb with | agg _ ys hys =>
          have key := eqInts_ok (E := E) (x := x) (t := t) (E.P.fieldsOf t).toList 0 (xs := xs) (ys := ys) he (by rw [Array.length_toList, h4, hl.1]) (fun j f hf => by rw [Nat.zero_add]; exact h5 j f hf)
            (fun j c hc => by rw [Nat.zero_add]; exact hxs.2 j c hc) (fun j c hc => by rw [Nat.zero_add]; exact hys.2 j c hc) w
          have keyq : (Op.equalIn 10000 t (.agg xs) (.agg ys)).run E.P w = .ok bb w := (run_equalIn_struct w 9999 t xs ys h3 h1).trans key
          have hg := run_eqGuard_agg (P := E.P) w op t X Y xs ys h2
          unfold eqlOf at h
          split at h
          · cases h
            exact ⟨.bool bb, by simp only [Sem.run_bind, hg, Result.andThen_ok, run_eql_struct, keyq], VA.sc x rfl⟩
          · cases h
            exact ⟨.bool (!bb), by simp only [Sem.run_bind, hg, Result.andThen_ok, run_neq_struct, keyq], VA.sc x rfl⟩
          · cases h
        · cases h
      · cases h
    · cases h
  · cases h

theorem aBin_ok (hR : Rel B x O H) {op : BinOp} {t : TypeId} {a b v : A} {p q : Value} {X Y : Operand} (ha : VA x a p) (hb : VA x b q) (h : aBin E H op t a b = some v) (w : World) :
    ∃ r, (do eqGuard op t X Y p q; binOp op t p q).run E.P w = .ok r w ∧ VA x v r := by
  have bl : ∀ {t}, E.bln t = true → E.und t = some .bool := fun h => by unfold Env.bln at h; split at h; assumption; cases h
  have pt : ∀ {t}, E.ptr t = true → ∃ e, E.und t = some (.pointer e) := fun h => by unfold Env.ptr at h; split at h; exact ⟨_, by assumption⟩; cases h
  unfold aBin at h
  split at h
  · rename_i s r h1 h2
    obtain ⟨rfl, _⟩ := sv_eq h1 ha
    obtain ⟨rfl, _⟩ := sv_eq h2 hb
    split at h
    · rename_i ht
      have hg : eqGuard op t X Y (.bool s) (.bool r) = pure () := by simp [eqGuard]
      simp only [hg, pure_bind]
      exact eqlOf_ok h (equal_bool (bl ht) _ _ w) (by simp only [binOp]) (by simp only [binOp])
    · cases h
  · rename_i h1 h2
    obtain ⟨rfl, _⟩ := sv_eq h1 ha
    obtain ⟨rfl, _⟩ := sv_eq h2 hb
    split at h
    · rename_i ht
      obtain ⟨e, ht⟩ := pt ht
      have hg : eqGuard op t X Y (.pointer none) (.pointer none) = pure () := by simp [eqGuard]
      simp only [hg, pure_bind]
      exact eqlOf_ok h (equal_nil ht _ w) (by simp only [binOp]) (by simp only [binOp])
    · cases h
  · rename_i s r _ _ h1 h2
    obtain ⟨rfl, _⟩ := sv_eq h1 ha
    obtain ⟨rfl, _⟩ := sv_eq h2 hb
    simp only [Option.map_eq_some_iff] at h
    obtain ⟨r, hr, rfl⟩ := h
    obtain ⟨h3, h4⟩ := bin_ok (E := E) (xt := t) (x := X) (y := Y) w hr
    exact ⟨r, h3, VA.sc x h4⟩
  · rename_i h1 h2
    obtain ⟨rfl, _⟩ := sv_eq h2 hb
    split at h
    · rename_i hc
      obtain ⟨e, ht⟩ := pt hc.1
      obtain ⟨z, rfl⟩ := live_ok hR ha hc.2
      · have hg : eqGuard op t X Y (.pointer (some z)) (.pointer none) = pure () := by simp [eqGuard]
        simp only [hg, pure_bind]
        exact eqlOf_ok h (equal_nil' ht _ w) (by simp only [binOp]) (by simp only [binOp])
    · cases h
  · rename_i h1 h2
    obtain ⟨rfl, _⟩ := sv_eq h1 ha
    split at h
    · rename_i hc
      obtain ⟨e, ht⟩ := pt hc.1
      obtain ⟨z, rfl⟩ := live_ok hR hb hc.2
      · have hg : eqGuard op t X Y (.pointer none) (.pointer (some z)) = pure () := by simp [eqGuard]
        simp only [hg, pure_bind]
        exact eqlOf_ok h (equal_nil ht _ w) (by simp only [binOp]) (by simp only [binOp])
    · cases h
  · exact aEqS_ok ha hb h w
  · cases h


theorem aNil_ok (hR : Rel B x O H) {a v : A} {y : Operand} {ρ : Operand → Value} {dst : Option Tmp} {type : TypeId} {pos : String} {after : Array Edge} {guard : Option (Nat × Bool)}
    (ha : VA x a (ρ y)) (h : aNil H a = some v) (w : World) : ∃ r, (execOp ρ ⟨dst, .nilCheck y, type, pos, after, guard⟩).run E.P w = .ok (.value r) w ∧ VA x v r := by
  unfold aNil at h
  split at h
  · cases h
    generalize hy : ρ y = u at ha
    cases ha with | c _ _ ha => cases ha with | clo fn caps vs u hl hu hv =>
    exact ⟨_, by simp [execOp, hy], .c _ _ (.clo _ _ _ u hl hu hv)⟩
  · split at h
    · rename_i hl
      cases h
      obtain ⟨p, hp⟩ := live_ok hR ha hl
      refine ⟨.pointer (some p), by simp [execOp, hp], hp ▸ ha⟩
    · cases h

theorem rowsAt_get {rs : List (List D)} {i : Nat} (h : i < rs.length) : rs[i]? = some (rowsAt rs i) := by
  simp [rowsAt, List.getD, List.getElem?_eq_getElem h]

theorem aIndexAddr_ok (hR : Rel B x O H) {t : TypeId} {a i v : A} {u k : Value} (ha : VA x a u) (hi : VA x i k) (h : aIndexAddr E H t a i = some v) (w : World) :
    ∃ r, (Instr.indexAt t u k).run E.P w = .ok r w ∧ VA x v r := by
  have et : ∀ {t e}, E.elt t = some e → E.und t = some (.slice e) := fun h => by unfold Env.elt at h; split at h; (cases h; assumption); cases h
  have at' : ∀ {t m e}, E.arr t = some (m, e) → E.und t = some (.array m e) := fun h => by unfold Env.arr at h; split at h; (cases h; assumption); cases h
  unfold aIndexAddr at h
  split at h
  · rename_i ik n h1
    obtain ⟨rfl, _⟩ := sv_eq h1 hi
    split at h
    · rename_i rs
      split at h
      · rename_i e he
        split at h
        · rename_i hc
          obtain ⟨h0, hlt, hs⟩ := hc
          cases h
          cases ha with | c _ _ ha => cases ha with | d _ _ ha => cases ha with
          | nil a cap => simp at hlt
          | fz _ b o cap s uu hcap hss hF hcc hd =>
            have hn : (n.toNat : Int) = n := by omega
            have hlen : (rowsAt rs n.toNat).length = s := hss _ (List.mem_of_getElem? (rowsAt_get hlt))
            refine ⟨.pointer (some ⟨b, o + n.toNat * s, none⟩), ?_, .c _ _ ?_⟩
            · have h2 : 0 ≤ n ∧ n < (rs.length : Int) := by omega
              simp only [Instr.indexAt, Sem.run_bind, asIntOf, Sem.run_pure, Result.andThen_ok, und_run (et he)]
              simp [h2, Env.size_run hs, hlen, add_off]
            · refine .pf _ 0 b (o + n.toNat * s) (fun _ => hF) (fun c d hd' => ?_)
              exact ⟨uu n.toNat c, by have := hcc _ _ _ _ (rowsAt_get hlt) hd'; rwa [← Nat.add_assoc] at this, hd _ _ _ _ (rowsAt_get hlt) hd'⟩
        · cases h
      · cases h
    · rename_i id off len m
      split at h
      · rename_i s rs tyB e hb he
        split at h
        · rename_i hc
          obtain ⟨h0, hlt, hm, hs⟩ := hc
          cases h
          cases ha with | c _ _ ha => cases ha with | own _ _ _ _ _ ha =>
          have hN : x.N id = some (s, m) := by rw [hR.hN]; simp [nOf, hG_some hb, hm]
          have := (ha.2.2 s m hN).2 rfl
          split at this
          · obtain ⟨_, _, rfl, _⟩ := this; omega
          · rename_i b lo hμ
            obtain ⟨p, cap, sz, rfl, hp, hlo, h4, h5, h6, h7, h8⟩ := this
            have hp' : p = ⟨b, (off - lo) * s, none⟩ := hp.resolve_left (by omega)
            subst hp'
            refine ⟨.pointer (some ⟨b, (off + n.toNat - lo) * s + 0, none⟩), ?_, .c _ _ (.ptr _ _ _ _ _ ⟨rfl, ha.2.1, fun s' m' hN' => ?_⟩)⟩
            · have h2 : 0 ≤ n ∧ n < (len : Int) := by omega
              simp only [Instr.indexAt, Sem.run_bind, asIntOf, Sem.run_pure, Result.andThen_ok, und_run (et he)]
              have h9 : (off - lo) * s + n.toNat * s = (off + n.toNat - lo) * s := by rw [← Nat.add_mul]; congr 1; omega
              simp [h2, Env.size_run hs, add_off, h9]
            · rw [hN] at hN'
              cases hN'
              exact ⟨Nat.le_refl _, fun _ => ⟨b, lo, hμ, by omega, by have := (hR.blk _ _ (hG_some hb)).1; rw [if_neg (by omega)]⟩⟩
        · cases h
      · cases h
    · rename_i rs
      split at h
      · rename_i m e he
        split at h
        · rename_i hc
          obtain ⟨h0, hlt, hm, hs⟩ := hc
          cases h
          cases ha with | c _ _ ha => cases ha with | pa _ b o s hF hss hcc =>
          have hlen : (rowsAt rs n.toNat).length = s := hss _ (List.mem_of_getElem? (rowsAt_get hlt))
          refine ⟨.pointer (some ⟨b, o + n.toNat * s, none⟩), ?_, .c _ _ ?_⟩
          · have h2 : 0 ≤ n ∧ n < (m : Int) := by omega
            simp only [Instr.indexAt, Sem.run_bind, asIntOf, Sem.run_pure, Result.andThen_ok, und_run (at' he), Instr.sureAddr]
            simp [h2, Env.size_run hs, hlen, add_off]
          · refine .pf _ 0 b (o + n.toNat * s) (fun _ => hF (by rintro rfl; simp at hlt)) (fun c d hd' => ?_)
            obtain ⟨uu, h3, h4⟩ := hcc _ _ _ _ (rowsAt_get hlt) hd'
            exact ⟨uu, by rwa [← Nat.add_assoc] at h3, h4⟩
        · cases h
      · cases h
    · cases h
  · cases h

end
end Go.Eng
namespace Go.Eng
open Go.RowKit
set_option linter.unusedVariables false
set_option linter.unusedSimpArgs false

def bd : Option A → Option (Option Nat)
  | none => some none
  | some a => match sv a with
    | some (.int _ i) => if 0 ≤ i then some (some i.toNat) else none
    | _ => none

def subL {α : Type} : Option Nat → Option Nat → List α → List α
  | none, none, l => l
  | some i, none, l => l.drop i
  | none, some k, l => l.take k
  | some i, some k, l => (l.take k).drop i

def hiOf (h : Option Nat) (n : Nat) : Nat := match h with | none => n | some k => k
def loOf (l : Option Nat) : Nat := match l with | none => 0 | some k => k

def aSlice (E : Env) (H : Heap) (t : TypeId) (a : A) (lo hi : Option A) : Option A :=
  match bd lo, bd hi with
  | some l, some h => match a with
    | .c (.d (.sc (.string s))) => if E.str t = true ∧ loOf l ≤ hiOf h (bl s).length ∧ hiOf h (bl s).length ≤ (bl s).length then some (sc (.string (st (subL l h (bl s))))) else none
    | .c (.d (.fz rs)) => match E.elt t with
      | some e => if loOf l ≤ hiOf h rs.length ∧ hiOf h rs.length ≤ rs.length ∧ E.size e = some (rowsAt rs 0).length then some (.c (.d (.fz (subL l h rs)))) else none
      | none => none
    | .c .nils => match E.elt t with
      | some e => if loOf l = 0 ∧ hiOf h 0 = 0 ∧ (E.size e).isSome = true then some (.c .nils) else none
      | none => none
    | .c (.own id off len n) => match hG H id, E.elt t with
      | some (.rows s rs _), some e => if loOf l ≤ hiOf h len ∧ hiOf h len ≤ len ∧ n = rs.length ∧ E.size e = some s then some (.c (.own id (off + loOf l) (hiOf h len - loOf l) n)) else none
      | _, _ => none
    | .c (.pa rs) => match E.arr t with
      | some (m, e) => if loOf l ≤ hiOf h rs.length ∧ hiOf h rs.length ≤ rs.length ∧ m = rs.length ∧ E.size e = some (rowsAt rs 0).length then some (.c (.d (.fz (subL l h rs)))) else none
      | none => none
    | _ => none
  | _, _ => none

theorem subL_length {α : Type} {l h : Option Nat} {L : List α} (h1 : loOf l ≤ hiOf h L.length) (h2 : hiOf h L.length ≤ L.length) : (subL l h L).length = hiOf h L.length - loOf l := by
  cases l <;> cases h <;> simp_all [subL, loOf, hiOf] <;> omega

theorem subL_get {α : Type} {l h : Option Nat} {L : List α} (h1 : loOf l ≤ hiOf h L.length) (h2 : hiOf h L.length ≤ L.length) {i : Nat} {r : α} (hi : (subL l h L)[i]? = some r) : L[loOf l + i]? = some r := by
  have hlt := (List.getElem?_eq_some_iff.1 hi).1
  rw [subL_length h1 h2] at hlt
  rw [← hi]
  cases l <;> cases h <;> simp only [subL, loOf, hiOf] at * <;> simp only [List.getElem?_drop, List.getElem?_take, Nat.zero_add, Nat.sub_zero] at *
  · rw [if_pos (by omega)]
  · rw [if_pos (by omega)]

section
variable {E : Env} {B : Base} {x : Ctx} {O : Nat → Nat → Prop} {H : Heap}

def VO (x : Ctx) : Option A → Option Value → Prop
  | none, none => True
  | some a, some v => VA x a v
  | _, _ => False

theorem bd_ok {a : Option A} {v : Option Value} {r : Option Nat} (h : bd a = some r) (ha : VO x a v) :
    (r = none ∧ v = none) ∨ ∃ k n, r = some n ∧ v = some (.int k ((n : Nat) : Int)) := by
  cases a with
  | none =>
    cases h
    cases v
    · exact .inl ⟨rfl, rfl⟩
    · exact ha.elim
  | some a =>
    cases v with
    | none => exact ha.elim
    | some v =>
      simp only [bd] at h
      split at h
      · rename_i k i hs
        split at h
        · rename_i h0
          cases h
          obtain ⟨rfl, _⟩ := sv_eq hs ha
          exact .inr ⟨k, i.toNat, rfl, by rw [Int.toNat_of_nonneg h0]⟩
        · cases h
      · cases h

theorem bounds_run {P : Program} {b : Bool} {len cap : Nat} {lo hi : Option Value} {l h : Option Nat} (hl : (l = none ∧ lo = none) ∨ ∃ k n, l = some n ∧ lo = some (.int k (n : Int)))
    (hh : (h = none ∧ hi = none) ∨ ∃ k n, h = some n ∧ hi = some (.int k (n : Int))) (h1 : loOf l ≤ hiOf h len) (h2 : hiOf h len ≤ cap) (w : World) :
    (Instr.sliceBounds b len cap lo hi none).run P w = .ok (loOf l, hiOf h len, cap) w := by
  have sb : ∀ (k : IntKind) (n y : Nat) (c : BoundsCode), n ≤ y → (Instr.sliceBound (.int k (n : Int)) y c).run P w = .ok n w := fun k n y c h => by
    rw [run_sliceBound w k n y c (by omega) (by omega)]; simp
  rcases hl with ⟨rfl, rfl⟩ | ⟨k, n, rfl, rfl⟩ <;> rcases hh with ⟨rfl, rfl⟩ | ⟨k', n', rfl, rfl⟩ <;> simp only [loOf, hiOf] at * <;> simp [Instr.sliceBounds]
  · rw [sb _ _ _ _ h2]; simp
  · rw [sb _ _ _ _ h1]; simp
  · rw [sb _ _ _ _ h2]; simp [sb _ _ _ _ h1]

theorem aSlice_ok (hR : Rel B x O H) {t : TypeId} {a v : A} {lo hi : Option A} {u : Value} {lo' hi' : Option Value} (ha : VA x a u)
    (hlo : VO x lo lo') (hhi : VO x hi hi')
    (h : aSlice E H t a lo hi = some v) (w : World) : ∃ r, (Instr.sliceAt t u lo' hi' none).run E.P w = .ok r w ∧ VA x v r := by
  have et : ∀ {t e}, E.elt t = some e → E.und t = some (.slice e) := fun h => by unfold Env.elt at h; split at h; (cases h; assumption); cases h
  have at' : ∀ {t m e}, E.arr t = some (m, e) → E.und t = some (.array m e) := fun h => by unfold Env.arr at h; split at h; (cases h; assumption); cases h
  have stt : ∀ {t}, E.str t = true → E.und t = some .string := fun h => by unfold Env.str at h; split at h; assumption; cases h
  unfold aSlice at h
  split at h
  · rename_i l ho hl' hh'
    have hl := bd_ok hl' hlo
    have hh := bd_ok hh' hhi
    split at h
    · rename_i s
      split at h
      · rename_i hc
        obtain ⟨h0, h1, h2⟩ := hc
        cases h
        cases ha with | c _ _ ha => cases ha with | d _ _ ha => cases ha with | sc =>
        refine ⟨_, ?_, VA.sc x rfl⟩
        have hx : ∀ i k, s.extract i k = st (((bl s).take k).drop i) := fun i k => by
          apply ByteArray.ext
          apply Array.ext'
          simp [st, bl, ByteArray.data_extract, List.drop_take]
        simp only [Instr.sliceAt, Sem.run_bind, und_run (stt h0), Result.andThen_ok, Instr.slice]
        rw [← size_bl] at h1 h2
        have hb := bounds_run (P := E.P) (b := false) hl hh h1 h2 w
        rw [size_bl] at hb
        simp only [Option.isSome_none, Bool.false_eq_true, if_false, Sem.run_bind, Sem.run_pure, Result.andThen_ok, size_bl, hb, hx]
        congr 4
        cases l <;> cases ho <;> simp [subL, loOf, hiOf]
      · cases h
    · rename_i rs
      split at h
      · rename_i e he
        split at h
        · rename_i hc
          obtain ⟨h1, h2, h3⟩ := hc
          cases h
          cases ha with | c _ _ ha => cases ha with | d _ _ ha =>
          cases ha with
          | nil a cap =>
            have e1 : loOf l = 0 := by simp at h2; simp [h2] at h1; omega
            have e2 : hiOf ho 0 = 0 := by simpa using h2
            have hb := bounds_run (P := E.P) (b := true) (len := 0) (cap := cap) hl hh (by omega) (by omega) w
            refine ⟨_, by simp only [Instr.sliceAt, Sem.run_bind, und_run (et he), Result.andThen_ok, Instr.slice, hb, Env.size_run h3, Sem.run_pure]; rfl, ?_⟩
            have e3 : subL l ho ([] : List (List D)) = [] := by cases l <;> cases ho <;> simp [subL]
            rw [e3, e1, e2]
            exact .c _ _ (.d _ _ (.nil _ _))
          | fz _ b o cap s uu hcap hss hF hcc hd =>
            have hb := bounds_run (P := E.P) (b := true) (cap := cap) hl hh h1 (by omega) w
            refine ⟨_, by simp only [Instr.sliceAt, Sem.run_bind, und_run (et he), Result.andThen_ok, Instr.slice, hb, Env.size_run h3, Sem.run_pure]; rfl, ?_⟩
            refine .c _ _ (.d _ _ ?_)
            have hsl := subL_length h1 h2
            rw [← hsl]
            by_cases hne : (subL l ho rs).length = 0
            · rw [hne, List.length_eq_zero_iff.1 hne]
              exact .nil _ _
            · have hpos : 0 < rs.length := by omega
              have hs0 : (rowsAt rs 0).length = s := hss _ (List.mem_of_getElem? (rowsAt_get hpos))
              rw [if_neg (by omega)]
              simp only [Option.map_some, add_off, hs0]
              refine .fz _ b (o + loOf l * s) _ s (fun i c => uu (loOf l + i) c) (by omega) (fun r hr => ?_) hF (fun i r c d hi hx => ?_) (fun i r c d hi hx => ?_)
              · obtain ⟨i, hi⟩ := List.getElem?_of_mem hr
                exact hss _ (List.mem_of_getElem? (subL_get h1 h2 hi))
              · have := hcc _ _ _ _ (subL_get h1 h2 hi) hx
                rw [← this]
                congr 2
                rw [Nat.add_mul]; omega
              · exact hd _ _ _ _ (subL_get h1 h2 hi) hx
        · cases h
      · cases h
    · split at h
      · rename_i e he
        split at h
        · rename_i hc
          obtain ⟨h1, h2, h3⟩ := hc
          cases h
          cases ha with | c _ _ ha => cases ha with | nils =>
          obtain ⟨s, hs⟩ := Option.isSome_iff_exists.1 h3
          have hb := bounds_run (P := E.P) (b := true) (len := 0) (cap := 0) hl hh (by omega) (by omega) w
          refine ⟨_, by simp only [Instr.sliceAt, Sem.run_bind, und_run (et he), Result.andThen_ok, Instr.slice, hb, Env.size_run hs, Sem.run_pure]; rfl, ?_⟩
          simp only [h1, h2, if_true, Nat.sub_zero]
          exact .c _ _ .nils
        · cases h
      · cases h
    · rename_i id off len m
      split at h
      · rename_i s rs tyB e hb' he
        split at h
        · rename_i hc
          obtain ⟨h1, h2, h3, h4⟩ := hc
          cases h
          cases ha with | c _ _ ha => cases ha with | own _ _ _ _ _ ha =>
          have hN : x.N id = some (s, m) := by rw [hR.hN]; simp [nOf, hG_some hb', h3]
          have := (ha.2.2 s m hN).2 rfl
          split at this
          · rename_i hμ
            obtain ⟨rfl, rfl, rfl, rfl⟩ := this
            have hb := bounds_run (P := E.P) (b := true) (len := 0) (cap := 0) hl hh (by omega) (by omega) w
            refine ⟨_, by simp only [Instr.sliceAt, Sem.run_bind, und_run (et he), Result.andThen_ok, Instr.slice, hb, Env.size_run h4, Sem.run_pure]; rfl, .c _ _ (.own _ _ _ _ _ ⟨rfl, ha.2.1, fun s' m' hN' => ?_⟩)⟩
            rw [hN] at hN'
            cases hN'
            have e1 : hiOf ho 0 = 0 := by omega
            have e2 : loOf l = 0 := by omega
            refine ⟨Nat.le_refl _, fun _ => ?_⟩
            rw [hμ]
            simp [e1, e2]
          · rename_i b lo hμ
            obtain ⟨p, cap, sz, rfl, hp, hlo2, q4, q5, q6, q7, q8⟩ := this
            have hb := bounds_run (P := E.P) (b := true) (cap := cap) hl hh h1 (by omega) w
            refine ⟨_, by simp only [Instr.sliceAt, Sem.run_bind, und_run (et he), Result.andThen_ok, Instr.slice, hb, Env.size_run h4, Sem.run_pure]; rfl, .c _ _ (.own _ _ _ _ _ ⟨rfl, ha.2.1, fun s' m' hN' => ?_⟩)⟩
            rw [hN] at hN'
            cases hN'
            refine ⟨Nat.le_refl _, fun _ => ?_⟩
            rw [hμ]
            refine ⟨if cap = loOf l then p else p.add (loOf l * s), cap - loOf l, sz, ?_, ?_, by omega, by omega, by omega, by omega, q7, ?_⟩
            · split <;> simp
            · rcases hp with hp | hp
              · left; omega
              · by_cases e : cap = loOf l
                · left; omega
                · right
                  rw [if_neg e, hp, add_off]
                  congr 1
                  rw [← Nat.add_mul]; congr 1; omega
            · rw [show off + loOf l + (cap - loOf l) - lo = off + cap - lo by omega]; exact q8
        · cases h
      · cases h
    · rename_i rs
      split at h
      · rename_i m e he
        split at h
        · rename_i hc
          obtain ⟨h1, h2, h3, h4⟩ := hc
          cases h
          cases ha with | c _ _ ha => cases ha with | pa _ b o s hF hss hcc =>
          subst h3
          have hb := bounds_run (P := E.P) (b := false) (len := rs.length) (cap := rs.length) hl hh h1 h2 w
          refine ⟨_, by simp only [Instr.sliceAt, Sem.run_bind, und_run (at' he), Result.andThen_ok, Instr.sureAddr, hb, Env.size_run h4, Sem.run_pure]; rfl, .c _ _ (.d _ _ ?_)⟩
          have hsl := subL_length h1 h2
          rw [← hsl]
          by_cases hne : (subL l ho rs).length = 0
          · rw [hne, List.length_eq_zero_iff.1 hne]
            exact .nil _ _
          · have hpos : 0 < rs.length := by omega
            have hs0 : (rowsAt rs 0).length = s := hss _ (List.mem_of_getElem? (rowsAt_get hpos))
            rw [if_neg (by omega), add_off, hs0]
            have key : ∀ i r c d, (subL l ho rs)[i]? = some r → r[c]? = some d → ∃ uu, x.w.cell? ⟨b, o + loOf l * s + (i * s + c), none⟩ = some uu ∧ DR x.w x.F d uu := fun i r c d hi hd => by
              obtain ⟨uu, e1, e2⟩ := hcc _ _ _ _ (subL_get h1 h2 hi) hd
              refine ⟨uu, ?_, e2⟩
              rw [← e1]
              congr 2
              rw [Nat.add_mul]; omega
            refine .fz _ b (o + loOf l * s) _ s (fun i c => (x.w.cell? ⟨b, o + loOf l * s + (i * s + c), none⟩).getD undef) (by omega) (fun r hr => ?_) (hF (by rintro rfl; simp at hpos)) (fun i r c d hi hx => ?_) (fun i r c d hi hx => ?_)
            · obtain ⟨i, hi⟩ := List.getElem?_of_mem hr
              exact hss _ (List.mem_of_getElem? (subL_get h1 h2 hi))
            · obtain ⟨uu, e1, e2⟩ := key i r c d hi hx
              rw [e1]; rfl
            · obtain ⟨uu, e1, e2⟩ := key i r c d hi hx
              rw [e1]; exact e2
        · cases h
      · cases h
    · cases h
  · cases h

end
end Go.Eng
namespace Go.Eng
open Go.RowKit
set_option linter.unusedVariables false
set_option linter.unusedSimpArgs false

def capsOf : List A → Option (List C)
  | [] => some []
  | .c c :: l => match capsOf l with | some r => some (c :: r) | none => none
  | _ :: _ => none

def aMinMax (mx : Bool) : A → A → Option A := fun a b =>
  match sv a, sv b with
  | some (.int k p), some (.int k' q) => if k = k' then some (sc (.int k (if mx = true then (if q > p then q else p) else (if q < p then q else p)))) else none
  | _, _ => none

def aop1 (E : Env) (T : List A) (H : Heap) : Op → Option A
  | .move y | .assign y => some (ev E T y)
  | .pick c a b => match ofBool (ev E T c) with | some t => some (selA t (ev E T a) (ev E T b)) | none => none
  | .load t a => aLoad E H t (ev E T a)
  | .nilCheck y => aNil H (ev E T y)
  | .binOp op t y z _ => aBin E H op t (ev E T y) (ev E T z)
  | .unOp op _ y => aUn op (ev E T y)
  | .convert s d y => aConv E s d (ev E T y)
  | .makeFunc fn first caps => if first.toList.length = 0 then match capsOf (caps.toList.map (ev E T)) with | some r => some (.c (.clo fn r)) | none => none else none
  | .slice t y lo hi mx => match mx with | none => aSlice E H t (ev E T y) (lo.map (ev E T)) (hi.map (ev E T)) | some _ => none
  | .fieldAddr t y f => aFieldAddr E H t f (ev E T y)
  | .field t y f => aField E t f (ev E T y)
  | .indexAddr t y i => aIndexAddr E H t (ev E T y) (ev E T i)
  | .index t y i => aIndex E t (ev E T y) (ev E T i)
  | .extract y i => aExtract i (ev E T y)
  | .call c => match c.callee with
    | .builtin .len => match c.args.toList, c.argTypes.toList with | [y], [t] => aLen E H t (ev E T y) | _, _ => none
    | .builtin .max => match c.args.toList with | [y, z] => aMinMax true (ev E T y) (ev E T z) | _ => none
    | .builtin .min => match c.args.toList with | [y, z] => aMinMax false (ev E T y) (ev E T z) | _ => none
    | _ => none
  | _ => none

theorem VA.inv {x : Ctx} {c : C} {u : Value} (h : VA x (.c c) u) : VR x c u := by cases h; assumption

theorem capsOf_ok {E : Env} {x : Ctx} {T : List A} {a : Act} (he : ∀ y, VA x (ev E T y) (a.eval y)) : ∀ {l : List Operand} {r : List C}, capsOf (l.map (ev E T)) = some r →
    r.length = l.length ∧ ∀ (i : Nat) c, r[i]? = some c → ∃ y, l[i]? = some y ∧ VR x c (a.eval y)
  | [], r, h => by cases h; simp
  | y :: l, r, h => by
    simp only [List.map_cons] at h
    unfold capsOf at h
    split at h
    · rename_i heq; cases heq
    · rename_i c l' heq
      simp only [List.cons.injEq] at heq
      obtain ⟨h1, rfl⟩ := heq
      split at h
      · rename_i r' hr
        cases h
        obtain ⟨h2, h3⟩ := capsOf_ok he hr
        refine ⟨by simp [h2], fun i c' hc => ?_⟩
        cases i with
        | zero =>
          cases hc
          exact ⟨y, rfl, VA.inv (h1 ▸ he y)⟩
        | succ i => exact h3 i c' hc
      · cases h
    · cases h

theorem aMinMax_ok {E : Env} {x : Ctx} {mx : Bool} {a b v : A} {p q : Value} (ha : VA x a p) (hb : VA x b q) (h : aMinMax mx a b = some v) (w : World) :
    ∃ r, (if mx = true then Builtin.max2 p q else Builtin.min2 p q).run E.P w = .ok r w ∧ VA x v r := by
  unfold aMinMax at h
  split at h
  · rename_i k p' k' q' h1 h2
    obtain ⟨rfl, _⟩ := sv_eq h1 ha
    obtain ⟨rfl, _⟩ := sv_eq h2 hb
    split at h
    · rename_i hk
      subst hk
      cases h
      cases mx
      · exact ⟨_, by simp only [Bool.false_eq_true, if_false, Builtin.min2, Sem.run_pure], VA.sc x rfl⟩
      · exact ⟨_, by simp only [if_true, Builtin.max2, Sem.run_pure], VA.sc x rfl⟩
    · cases h
  · cases h

theorem aop1_ok {E : Env} {T : List A} {H : Heap} {o : Oper} {v : A} (h : aop1 E T H o.op = some v) : Yld E T H o v H := by
  refine Yld.same fun B x O a hR hT he => ?_
  obtain ⟨dst, op, type, pos, after, guard⟩ := o
  cases op <;> simp only [aop1] at h <;> first | (cases h; done) | skip
  case move y => cases h; exact ⟨_, by simp [execOp], he y⟩
  case assign y => cases h; exact ⟨_, by simp [execOp], he y⟩
  case pick c p q =>
    split at h
    · rename_i t ht
      cases h
      have hc := ofBool_eq ht (he c)
      refine ⟨if t then a.eval p else a.eval q, by simp [execOp, hc, asBool], ?_⟩
      cases t
      · exact he q
      · exact he p
    · cases h
  case load t y =>
    obtain ⟨r, h1, h2⟩ := aLoad_ok hR (he y) h
    exact ⟨r, by simp [execOp, h1], h2⟩
  case nilCheck y => exact aNil_ok hR (he y) h x.w
  case binOp op t y z _ =>
    obtain ⟨r, h1, h2⟩ := aBin_ok hR (X := y) (Y := z) (he y) (he z) h x.w
    refine ⟨r, ?_, h2⟩
    have : (do let s ← (do eqGuard op t y z (a.eval y) (a.eval z); binOp op t (a.eval y) (a.eval z)); pure (Next.value s)).run E.P x.w = .ok (.value r) x.w := by
      rw [Sem.run_bind, h1]; rfl
    exact this
  case unOp op _ y =>
    obtain ⟨r, h1, h2⟩ := aUn_ok (E := E) (he y) h x.w
    exact ⟨r, by simp [execOp, h1], h2⟩
  case convert s d y =>
    obtain ⟨r, h1, h2⟩ := aConv_ok (he y) h x.w
    exact ⟨r, by simp [execOp, h1], h2⟩
  case makeFunc fn first caps =>
    split at h
    · rename_i h0
      split at h
      · rename_i r hr
        cases h
        obtain ⟨h1, h2⟩ := capsOf_ok he hr
        have hf : first = #[] := by apply Array.ext'; simpa using h0
        refine ⟨.func fn #[] (caps.map a.eval), by simp [execOp, Instr.makeFunc, hf], .c _ _ (.clo fn r _ (fun i => a.eval (caps.getD i default)) (by simp [h1]) (fun i c hc => ?_) (fun i c hc => ?_))⟩
        · obtain ⟨y, hy, _⟩ := h2 i c hc
          have hlt : i < caps.size := by have := (List.getElem?_eq_some_iff.1 hy).1; simpa using this
          simp [hlt]
        · obtain ⟨y, hy, hv⟩ := h2 i c hc
          have hlt : i < caps.size := by have := (List.getElem?_eq_some_iff.1 hy).1; simpa using this
          have : caps.getD i default = y := by
            have : caps[i]? = some y := by simpa using hy
            simp [Array.getD_eq_getD_getElem?, this]
          rw [this]; exact hv
      · cases h
    · cases h
  case slice t y lo hi mx =>
    split at h
    · have vo : ∀ o : Option Operand, VO x (o.map (ev E T)) (o.map a.eval) := fun o => by cases o; exact trivial; exact he _
      obtain ⟨r, h1, h2⟩ := aSlice_ok hR (he y) (vo lo) (vo hi) h x.w
      exact ⟨r, by simp [execOp, h1], h2⟩
    · cases h
  case fieldAddr t y f =>
    obtain ⟨r, h1, h2⟩ := aFieldAddr_ok hR (he y) h x.w
    exact ⟨r, by simp [execOp, h1], h2⟩
  case field t y f =>
    obtain ⟨r, h1, h2⟩ := aField_ok (he y) h x.w
    exact ⟨r, by simp [execOp, h1], h2⟩
  case indexAddr t y i =>
    obtain ⟨r, h1, h2⟩ := aIndexAddr_ok hR (he y) (he i) h x.w
    exact ⟨r, by simp [execOp, h1], h2⟩
  case index t y i =>
    obtain ⟨r, h1, h2⟩ := aIndex_ok (he y) (he i) h x.w
    exact ⟨r, by simp [execOp, h1], h2⟩
  case extract y i =>
    have hy := he y
    unfold aExtract at h
    split at h
    · rename_i l heq
      rw [heq] at hy
      generalize hu : a.eval y = u at hy
      cases hy with | tup _ vs uu hl h1 h2 =>
      exact ⟨uu i, by simp [execOp, Instr.extract, hu, h1 i v h], h2 i v h⟩
    · cases h
  case call c =>
    obtain ⟨callee, args, ats⟩ := c
    simp only at h
    split at h
    · split at h
      · rename_i y t hy ht
        have ea : args = #[y] := by apply Array.ext'; simpa using hy
        have et : ats = #[t] := by apply Array.ext'; simpa using ht
        subst ea; subst et
        obtain ⟨r, h1, h2⟩ := aLen_ok hR (ty := type) (he y) h x.w
        exact ⟨r, by simp [execOp, resolve, invoke, builtin, h1], h2⟩
      · cases h
    · split at h
      · rename_i y z hy
        have ea : args = #[y, z] := by apply Array.ext'; simpa using hy
        subst ea
        obtain ⟨r, h1, h2⟩ := aMinMax_ok (E := E) (he y) (he z) h x.w
        simp only [if_true] at h1
        exact ⟨r, by simp [execOp, resolve, invoke, builtin, Builtin.max_, h1], h2⟩
      · cases h
    · split at h
      · rename_i y z hy
        have ea : args = #[y, z] := by apply Array.ext'; simpa using hy
        subst ea
        obtain ⟨r, h1, h2⟩ := aMinMax_ok (E := E) (he y) (he z) h x.w
        simp only [Bool.false_eq_true, if_false] at h1
        exact ⟨r, by simp [execOp, resolve, invoke, builtin, Builtin.min_, h1], h2⟩
      · cases h
    · cases h

end Go.Eng
namespace Go.Eng
open Go.RowKit
set_option linter.unusedVariables false
set_option linter.unusedSimpArgs false

def Blk.n : Blk → Nat × Nat
  | .box _ _ => (0, 0)
  | .rows s rs _ => (s, rs.length)
  | .mp _ => (0, 1)

theorem nOf_some {H : Heap} {id : Nat} {b : Blk} (h : H[id]? = some (some b)) : nOf H id = some b.n := by
  unfold nOf; rw [h]; cases b <;> rfl

theorem nOf_none {H : Heap} {id : Nat} (h : ∀ b, H[id]? ≠ some (some b)) : nOf H id = none := by
  unfold nOf
  split
  · rename_i h'; exact absurd h' (h _)
  · rename_i h'; exact absurd h' (h _)
  · rename_i h'; exact absurd h' (h _)
  · rfl

theorem nOf_inv {H : Heap} {id : Nat} {p : Nat × Nat} (h : nOf H id = some p) : ∃ b, H[id]? = some (some b) ∧ b.n = p := by
  unfold nOf at h
  split at h
  · rename_i h'; cases h; exact ⟨_, h', rfl⟩
  · rename_i h'; cases h; exact ⟨_, h', rfl⟩
  · rename_i h'; cases h; exact ⟨_, h', rfl⟩
  · cases h

theorem BR.mono {x y : Ctx} {O O' : Nat → Prop} {id : Nat} {b : Blk} (h : x.Le y) (hμ : y.μ id = x.μ id) (hO : ∀ k, O k → O' k) (hb : ∀ k, O k → y.w.heap[k]? = x.w.heap[k]?) (hB : BR x O id b) : BR y O' id b := by
  cases b with
  | box cs ty =>
    obtain ⟨b, vs, t, h1, h2, h3, h4⟩ := hB
    exact ⟨b, vs, t, hμ.trans h1, hO b h2, (hb b h2).trans h3, h4.mono h⟩
  | rows s rs =>
    obtain ⟨h0, h1, h2⟩ := hB
    refine ⟨h0, h1, ?_⟩
    rcases h2 with ⟨h2, h3⟩ | ⟨b, lo, vs, t, h2, h3, h4, h5, h6, h7⟩
    · exact .inl ⟨hμ.trans h2, h3⟩
    · refine .inr ⟨b, lo, vs, t, hμ.trans h2, hO b h3, (hb b h3).trans h4, h5, h6, fun i r c d hi hr hd => ?_⟩
      obtain ⟨u, hu, hv⟩ := h7 i r c d hi hr hd
      exact ⟨u, hu, hv.mono h.F⟩
  | mp es =>
    obtain ⟨b, ents, ck, h1, h2, h3, h4⟩ := hB
    exact ⟨b, ents, ck, hμ.trans h1, hO b h2, (hb b h2).trans h3, h4⟩

section
variable {B : Base} {x : Ctx} {O : Nat → Nat → Prop} {H : Heap}

theorem Rel.upd (hR : Rel B x O H) {id : Nat} {b b' : Blk} (hid : H[id]? = some (some b)) (w' : World) (m' : Option (Nat × Nat)) (Oid : Nat → Prop)
    (hos : w'.os = x.w.os) (htape : w'.tape = x.w.tape) (hout : w'.output = x.w.output) (hsize : x.w.heap.size ≤ w'.heap.size)
    (hkeep : ∀ k, k < x.w.heap.size → ¬ O id k → w'.heap[k]? = x.w.heap[k]?) (hO : ∀ k, Oid k → (O id k ∨ x.w.heap.size ≤ k) ∧ k < w'.heap.size)
    (hn : b.n.1 = b'.n.1 ∧ b.n.2 ≤ b'.n.2 ∧ (b.n.2 = b'.n.2 → m' = x.μ id ∧ ∀ g lo, x.μ id = some (g, lo) → bsz w' g = bsz x.w g))
    (hB : ∀ y : Ctx, y.w = w' → x.Le y → y.F = x.F → y.μ id = m' → BR y Oid id b') :
    ∃ y O', y.w = w' ∧ x.Le y ∧ y.F = x.F ∧ y.μ id = m' ∧ Rel B y O' (H.set id (some b')) := by
  have hlt : id < H.length := (List.getElem?_eq_some_iff.1 hid).1
  let y : Ctx := { w := w', F := x.F, μ := fun i => if i = id then m' else x.μ i, N := nOf (H.set id (some b')), L := x.L }
  have hset : ∀ i, i ≠ id → nOf (H.set id (some b')) i = nOf H i := fun i hi => by unfold nOf; rw [List.getElem?_set_ne (by omega)]
  have hself : nOf (H.set id (some b')) id = some b'.n := nOf_some (by simp [hlt])
  have hF : ∀ k, x.F k → w'.heap[k]? = x.w.heap[k]? := fun k hk => hkeep k (hR.fr k hk).1 (fun ho => hR.nof _ _ ho hk)
  have hle : x.Le y := by
    refine ⟨fun k hk => ⟨hk, hF k hk⟩, hsize, Nat.le_refl _, fun i hi s m hm => ?_⟩
    by_cases e : i = id
    · subst e
      have h1 : b'.n = (s, m) := Option.some.inj (hself ▸ hm)
      obtain ⟨e1, e2, e3⟩ := hn
      rw [h1] at e1 e2 e3
      refine ⟨b.n.2, ?_, e2, fun e4 => ?_⟩
      · rw [hR.hN, nOf_some hid]; exact congrArg some (Prod.ext e1 rfl)
      · obtain ⟨q1, q2⟩ := e3 e4
        exact ⟨by show (if i = i then m' else _) = _; rw [if_pos rfl, q1], q2⟩
    · have hm' : x.N i = some (s, m) := by rw [hR.hN, ← hset i e]; exact hm
      refine ⟨m, hm', Nat.le_refl _, fun _ => ⟨by show (if i = id then m' else _) = _; rw [if_neg e], fun g lo hg => ?_⟩⟩
      have hb := hR.hN i ▸ hm'
      obtain ⟨bb, hbb, hbn⟩ := nOf_inv hb
      have hO' : O i g := by
        have hB' := hR.blk i bb hbb
        cases bb with
        | box cs ty => obtain ⟨g', vs, t, h1, h2, _⟩ := hB'; rw [h1] at hg; cases hg; exact h2
        | mp es => obtain ⟨g', vs, t, h1, h2, _⟩ := hB'; rw [h1] at hg; cases hg; exact h2
        | rows s' rs =>
          obtain ⟨_, _, h2⟩ := hB'
          rcases h2 with ⟨h2, _⟩ | ⟨g', lo', vs, t, h2, h3, _⟩
          · rw [h2] at hg; cases hg
          · rw [h2] at hg; cases hg; exact h3
      show bsz w' g = _
      unfold bsz
      rw [hkeep g (hR.own i g hO').1 (fun ho => e (hR.disj _ _ _ hO' ho))]
  have hO3 : ∀ i k, (if i = id then Oid k else O i k) → k < w'.heap.size ∧ (O i k ∨ x.w.heap.size ≤ k) := fun i k hk => by
    split at hk
    · rename_i e; subst e; exact ⟨(hO k hk).2, (hO k hk).1⟩
    · exact ⟨Nat.lt_of_lt_of_le (hR.own i k hk).1 hsize, .inl hk⟩
  refine ⟨y, fun i k => if i = id then Oid k else O i k, rfl, hle, rfl, if_pos rfl, ?_⟩
  refine ⟨?_, fun _ => rfl, hR.le.trans hle, hos.trans hR.os, htape.trans hR.tape, hout.trans hR.output, fun k hk hA => ?_, fun i k hk => ?_, fun k hk => ?_, fun i j k hi hj => ?_, fun i k hk hf => ?_, fun i bb hb => ?_⟩
  · show x.L = _
    rw [List.length_set]; exact hR.hL
  · refine (hkeep k (Nat.lt_of_lt_of_le hk hR.le.size) (fun ho => ?_)).trans (hR.keep k hk hA)
    rcases (hR.own id k ho).2 with h | h
    · exact hA h
    · omega
  · obtain ⟨h1, h2⟩ := hO3 i k hk
    refine ⟨h1, ?_⟩
    rcases h2 with h2 | h2
    · exact (hR.own i k h2).2
    · exact .inr (Nat.le_trans hR.le.size h2)
  · exact ⟨Nat.lt_of_lt_of_le (hR.fr k hk).1 hsize, (hR.fr k hk).2⟩
  · by_cases ei : i = id <;> by_cases ej : j = id
    · rw [ei, ej]
    · exfalso
      rw [if_pos ei] at hi
      rw [if_neg ej] at hj
      rcases (hO k hi).1 with h | h
      · exact ej (hR.disj _ _ _ hj h)
      · have := (hR.own j k hj).1; omega
    · exfalso
      rw [if_neg ei] at hi
      rw [if_pos ej] at hj
      rcases (hO k hj).1 with h | h
      · exact ei (hR.disj _ _ _ hi h)
      · have := (hR.own i k hi).1; omega
    · rw [if_neg ei] at hi
      rw [if_neg ej] at hj
      exact hR.disj _ _ _ hi hj
  · obtain ⟨_, h2⟩ := hO3 i k hk
    have hf' : x.F k := hf
    rcases h2 with h2 | h2
    · exact hR.nof _ _ h2 hf'
    · have := (hR.fr k hf').1; omega
  · by_cases e : i = id
    · subst e
      rw [List.getElem?_set_self hlt] at hb
      cases hb
      simp only [if_pos]
      exact hB y rfl hle rfl (if_pos rfl)
    · rw [List.getElem?_set_ne (by omega)] at hb
      simp only [if_neg e]
      exact (hR.blk i bb hb).mono hle (by show (if i = id then m' else _) = _; rw [if_neg e]) (fun _ h => h) (fun k hk => hkeep k (hR.own i k hk).1 (fun ho => e (hR.disj _ _ _ hk ho)))

theorem Rel.new (hR : Rel B x O H) (b' : Blk) (w' : World) (m' : Option (Nat × Nat)) (Oid : Nat → Prop)
    (hos : w'.os = x.w.os) (htape : w'.tape = x.w.tape) (hout : w'.output = x.w.output) (hsize : x.w.heap.size ≤ w'.heap.size)
    (hkeep : ∀ k, k < x.w.heap.size → w'.heap[k]? = x.w.heap[k]?) (hO : ∀ k, Oid k → x.w.heap.size ≤ k ∧ k < w'.heap.size)
    (hB : ∀ y : Ctx, y.w = w' → x.Le y → y.F = x.F → y.μ H.length = m' → BR y Oid H.length b') :
    ∃ y O', y.w = w' ∧ x.Le y ∧ y.F = x.F ∧ y.μ H.length = m' ∧ y.L = H.length + 1 ∧ Rel B y O' (H ++ [some b']) := by
  let y : Ctx := { w := w', F := x.F, μ := fun i => if i = H.length then m' else x.μ i, N := nOf (H ++ [some b']), L := H.length + 1 }
  have hold : ∀ i, i < H.length → nOf (H ++ [some b']) i = nOf H i := fun i hi => by unfold nOf; rw [List.getElem?_append_left hi]
  have hF : ∀ k, x.F k → w'.heap[k]? = x.w.heap[k]? := fun k hk => hkeep k (hR.fr k hk).1
  have hlt : ∀ i k, O i k → True := fun _ _ _ => trivial
  have hle : x.Le y := by
    refine ⟨fun k hk => ⟨hk, hF k hk⟩, hsize, by show x.L ≤ H.length + 1; rw [hR.hL]; omega, fun i hi s m hm => ?_⟩
    have hi' : i < H.length := by rw [← hR.hL]; exact hi
    have hm' : x.N i = some (s, m) := by rw [hR.hN, ← hold i hi']; exact hm
    refine ⟨m, hm', Nat.le_refl _, fun _ => ⟨by show (if i = H.length then m' else _) = _; rw [if_neg (by omega)], fun g lo hg => ?_⟩⟩
    obtain ⟨bb, hbb, hbn⟩ := nOf_inv (hR.hN i ▸ hm')
    have hO' : O i g := by
      have hB' := hR.blk i bb hbb
      cases bb with
      | box cs ty => obtain ⟨g', vs, t, h1, h2, _⟩ := hB'; rw [h1] at hg; cases hg; exact h2
      | mp es => obtain ⟨g', vs, t, h1, h2, _⟩ := hB'; rw [h1] at hg; cases hg; exact h2
      | rows s' rs =>
        obtain ⟨_, _, h2⟩ := hB'
        rcases h2 with ⟨h2, _⟩ | ⟨g', lo', vs, t, h2, h3, _⟩
        · rw [h2] at hg; cases hg
        · rw [h2] at hg; cases hg; exact h3
    show bsz w' g = _
    unfold bsz
    rw [hkeep g (hR.own i g hO').1]
  refine ⟨y, fun i k => if i = H.length then Oid k else O i k, rfl, hle, rfl, if_pos rfl, rfl, ?_⟩
  refine ⟨by simp [y], fun _ => rfl, hR.le.trans hle, hos.trans hR.os, htape.trans hR.tape, hout.trans hR.output, fun k hk hA => ?_, fun i k hk => ?_, fun k hk => ?_, fun i j k hi hj => ?_, fun i k hk hf => ?_, fun i bb hb => ?_⟩
  · exact (hkeep k (Nat.lt_of_lt_of_le hk hR.le.size)).trans (hR.keep k hk hA)
  · by_cases e : i = H.length
    · rw [if_pos e] at hk
      exact ⟨(hO k hk).2, .inr (Nat.le_trans hR.le.size (hO k hk).1)⟩
    · rw [if_neg e] at hk
      exact ⟨Nat.lt_of_lt_of_le (hR.own i k hk).1 hsize, (hR.own i k hk).2⟩
  · exact ⟨Nat.lt_of_lt_of_le (hR.fr k hk).1 hsize, (hR.fr k hk).2⟩
  · by_cases ei : i = H.length <;> by_cases ej : j = H.length
    · rw [ei, ej]
    · exfalso
      rw [if_pos ei] at hi
      rw [if_neg ej] at hj
      have h1 := (hO k hi).1
      have := (hR.own j k hj).1; omega
    · exfalso
      rw [if_neg ei] at hi
      rw [if_pos ej] at hj
      have h1 := (hO k hj).1
      have := (hR.own i k hi).1; omega
    · rw [if_neg ei] at hi
      rw [if_neg ej] at hj
      exact hR.disj _ _ _ hi hj
  · have hf' : x.F k := hf
    by_cases e : i = H.length
    · rw [if_pos e] at hk
      have := (hR.fr k hf').1
      have := (hO k hk).1; omega
    · rw [if_neg e] at hk
      exact hR.nof _ _ hk hf'
  · by_cases e : i = H.length
    · subst e
      simp only [List.getElem?_append_right (Nat.le_refl _), Nat.sub_self, List.getElem?_cons_zero, Option.some.injEq] at hb
      subst hb
      simp only [if_pos]
      exact hB y rfl hle rfl (if_pos rfl)
    · have hi' : i < H.length := by have := (List.getElem?_eq_some_iff.1 hb).1; simp at this; omega
      rw [List.getElem?_append_left hi'] at hb
      simp only [if_neg e]
      exact (hR.blk i bb hb).mono hle (by show (if i = H.length then m' else _) = _; rw [if_neg e]) (fun _ h => h) (fun k hk => hkeep k (hR.own i k hk).1)

theorem Rel.freeze (hR : Rel B x O H) {id : Nat} {b : Blk} (hid : H[id]? = some (some b)) :
    ∃ y O', y.w = x.w ∧ x.Le y ∧ (∀ k, y.F k ↔ x.F k ∨ O id k) ∧ Rel B y O' (H.set id none) := by
  have hlt : id < H.length := (List.getElem?_eq_some_iff.1 hid).1
  let y : Ctx := { w := x.w, F := fun k => x.F k ∨ O id k, μ := x.μ, N := nOf (H.set id none), L := x.L }
  have hset : ∀ i, i ≠ id → nOf (H.set id none) i = nOf H i := fun i hi => by unfold nOf; rw [List.getElem?_set_ne (by omega)]
  have hself : nOf (H.set id none) id = none := nOf_none (by simp [hlt])
  have hle : x.Le y := by
    refine ⟨fun k hk => ⟨.inl hk, rfl⟩, Nat.le_refl _, Nat.le_refl _, fun i hi s m hm => ?_⟩
    by_cases e : i = id
    · subst e
      have h1 : none = some (s, m) := hself ▸ hm
      cases h1
    · exact ⟨m, by rw [hR.hN, ← hset i e]; exact hm, Nat.le_refl _, fun _ => ⟨rfl, fun _ _ _ => rfl⟩⟩
  refine ⟨y, fun i k => i ≠ id ∧ O i k, rfl, hle, fun k => Iff.rfl, ?_⟩
  refine ⟨by show x.L = _; rw [List.length_set]; exact hR.hL, fun _ => rfl, hR.le.trans hle, hR.os, hR.tape, hR.output, hR.keep, fun i k hk => hR.own i k hk.2, fun k hk => ?_, fun i j k hi hj => hR.disj _ _ _ hi.2 hj.2, fun i k hk hf => ?_, fun i bb hb => ?_⟩
  · rcases hk with hk | hk
    · exact hR.fr k hk
    · have := hR.own id k hk
      exact ⟨this.1, this.2.elim (fun h => .inr (.inl h)) (fun h => .inr (.inr h))⟩
  · rcases hf with hf | hf
    · exact hR.nof _ _ hk.2 hf
    · exact hk.1 (hR.disj _ _ _ hk.2 hf)
  · by_cases e : i = id
    · subst e
      rw [List.getElem?_set_self hlt] at hb
      cases hb
    · rw [List.getElem?_set_ne (by omega)] at hb
      exact (hR.blk i bb hb).mono hle rfl (fun _ h => ⟨e, h⟩) (fun _ _ => rfl)

end
end Go.Eng
namespace Go.Eng
open Go.RowKit
set_option linter.unusedVariables false
set_option linter.unusedSimpArgs false

section
variable {E : Env}

theorem inf_run {t : TypeId} {s b : Nat} {z : Value} (h : E.inf t = some (s, b, z)) : ∃ i, E.P.info? t = some i ∧ i.size = s ∧ i.bytes = b ∧ i.zero = some z := E.hinf _ _ _ _ h

theorem zero_run {t : TypeId} {s b : Nat} {z : Value} (h : E.inf t = some (s, b, z)) (w : World) : (zeroValue t).run E.P w = .ok z w := by
  obtain ⟨i, h1, _, _, h2⟩ := inf_run h
  simp [zeroValue, typeInfo, h1, h2]

theorem size_of_inf {t : TypeId} {s b : Nat} {z : Value} (h : E.inf t = some (s, b, z)) : E.size t = some s := by simp [Env.size, h]

theorem one_oneCell {v : Value} (h : one v = true) : v.oneCell' = true := by cases v <;> first | rfl | cases h

def Env.noInt (E : Env) (t : TypeId) : Bool := match E.und t with | some (.slice _) => true | some .string => true | _ => false

theorem noInt_run {t : TypeId} (h : E.noInt t = true) : (∃ e, E.und t = some (.slice e)) ∨ E.und t = some .string := by
  unfold Env.noInt at h
  split at h
  · exact .inl ⟨_, by assumption⟩
  · exact .inr (by assumption)
  · cases h

theorem app_room {t t2 ty e : TypeId} {sz by_ : Nat} {z : Value} (ht : E.und t = some (.slice e)) (hi : E.inf e = some (sz, by_, z)) (h2 : E.noInt t2 = true)
    {b o n cap m : Nat} {xv : Value} {news : List Value} {cur : Array Value} {tt : TypeId} {w : World} (hx : (Builtin.lenOf xv) = pure m)
    (hf : ∀ w', w'.heap = w.heap → (Builtin.firstCells sz m xv).run E.P w' = .ok news.toArray w') (h1 : ∀ v ∈ news, one v = true)
    (hg : w.heap[b]? = some (.cells cur tt (0, 0))) (hroom : n + m ≤ cap) (hfit : o + n * sz + news.length ≤ cur.size) :
    (Builtin.append_ #[t, t2] ty #[.slice (some ⟨b, o, none⟩) n cap, xv]).run E.P w =
      .ok (.slice (some ⟨b, o, none⟩) (n + m) cap) (w.setRow b (cur.toList.take (o + n * sz) ++ news ++ cur.toList.drop (o + n * sz + news.length)).toArray) := by
  obtain ⟨i, q1, q2, q3, q4⟩ := inf_run hi
  have hst := run_storeCells_at E.P b (o + n * sz) tt news 0 cur w hg (by simpa using hfit) (fun v hv => one_oneCell (h1 v hv))
  simp only [Nat.add_zero] at hst
  have hfw := hf w rfl
  rcases noInt_run h2 with ⟨_, hd⟩ | hd <;> simp [Builtin.append_, und_run ht, und_run hd, sizeOf, typeInfo, q1, q2, hx, hroom, hfw, Addr.add_lit, hst]

set_option maxHeartbeats 4000000 in
theorem app_grow {t t2 ty e : TypeId} {sz by_ : Nat} {z : Value} (ht : E.und t = some (.slice e)) (hi : E.inf e = some (sz, by_, z)) (h2 : E.noInt t2 = true)
    {base : Option Addr} {n cap m : Nat} {xv : Value} {olds news : List Value} {w : World} (hx : (Builtin.lenOf xv) = pure m)
    (hf : ∀ w', w'.heap = w.heap → (Builtin.firstCells sz m xv).run E.P w' = .ok news.toArray w')
    (ho : ∀ w', w'.heap = w.heap → (Builtin.firstCells sz n (.slice base n cap)).run E.P w' = .ok olds.toArray w')
    (hg : cap < n + m) (h63 : n + m ≤ 9223372036854775807) (hb : (n + m) * by_ ≤ 140737488355328) :
    (Builtin.append_ #[t, t2] ty #[.slice base n cap, xv]).run E.P w =
      .ok (.slice (some ⟨w.heap.size, 0, none⟩) (n + m) (grownCap w (n + m) cap e))
        (w.drew.alloc (.cells (olds.toArray ++ news.toArray ++ Builtin.zeroCells z.cells (grownCap w (n + m) cap e - (n + m))) e)) := by
  obtain ⟨i, q1, q2, q3, q4⟩ := inf_run hi
  have hn : ¬ (n + m ≤ cap) := by omega
  have h63' : ¬ (9223372036854775807 < ((n : Int) + (m : Int))) := by omega
  have h48' : ¬ (281474976710656 < Builtin.nextslicecap (n + m) cap * i.bytes) := by rw [q3]; have := growslice_fits hg hb; omega
  have hf' := hf w.drew rfl
  have ho' := ho w.drew rfl
  rcases noInt_run h2 with ⟨_, hd⟩ | hd
  all_goals
    simp [Builtin.append_, und_run ht, und_run hd, sizeOf, typeInfo, zeroValue, q1, q2, q4, hx, hn, h63', h48', Question.forced, hf', ho', newRow, grownCap]
    congr 2
    apply Array.ext'
    simp [List.append_assoc]

end
end Go.Eng
namespace Go.Eng
open Go.RowKit
set_option linter.unusedVariables false
set_option linter.unusedSimpArgs false

def cellsOf : A → Option (List C)
  | .c c => some [c]
  | .agg cs => some cs
  | _ => none

theorem cells_of_one {v : Value} (h : one v = true) : v.cells = #[v] := by cases v <;> first | rfl | cases h

theorem cellsOf_ok {x : Ctx} {a : A} {v : Value} {cs : List C} (ha : VA x a v) (h : cellsOf a = some cs) : CsR x cs v.cells ∧ ∀ u ∈ v.cells.toList, one u = true := by
  cases ha with
  | c c v hv =>
    cases h
    rw [cells_of_one hv.one]
    refine ⟨⟨rfl, fun i c' hc => ?_⟩, fun u hu => ?_⟩
    · cases i with
      | zero => cases hc; exact ⟨v, rfl, hv⟩
      | succ i => cases hc
    · simp at hu; rw [hu]; exact hv.one
  | agg cs' vs hv =>
    cases h
    refine ⟨hv, fun u hu => ?_⟩
    obtain ⟨i, hi⟩ := List.getElem?_of_mem hu
    have hi' : vs[i]? = some u := by simpa [Value.cells] using hi
    have hlt : i < cs.length := by rw [← hv.1]; exact (Array.getElem?_eq_some_iff.1 hi').1
    obtain ⟨u', h1, h2⟩ := hv.get hlt
    rw [hi'] at h1
    cases h1
    exact h2.one
  | _ => cases h

def splC {α : Type} : Nat → List α → List α → Option (List α)
  | 0, [], l => some l
  | 0, n :: ns, _ :: l => match splC 0 ns l with | some r => some (n :: r) | none => none
  | o + 1, ns, c :: l => match splC o ns l with | some r => some (c :: r) | none => none
  | _, _, _ => none

theorem splC_eq {α : Type} : ∀ {o : Nat} {ns l r : List α}, splC o ns l = some r → o + ns.length ≤ l.length ∧ r = l.take o ++ ns ++ l.drop (o + ns.length)
  | 0, [], l, r, h => by simp [splC] at h; subst h; simp
  | 0, n :: ns, [], r, h => by simp [splC] at h
  | 0, n :: ns, c :: l, r, h => by
    simp only [splC] at h
    split at h
    · rename_i r' h'
      cases h
      obtain ⟨h1, h2⟩ := splC_eq h'
      exact ⟨by simp; omega, by rw [h2]; simp [Nat.add_comm]⟩
    · cases h
  | o + 1, ns, [], r, h => by cases ns <;> simp [splC] at h
  | o + 1, ns, c :: l, r, h => by
    have h' : (match splC o ns l with | some r => some (c :: r) | none => none) = some r := by cases ns <;> simpa [splC] using h
    split at h'
    · rename_i r' h''
      cases h'
      obtain ⟨h1, h2⟩ := splC_eq h''
      exact ⟨by simp; omega, by rw [h2]; simp [Nat.add_right_comm]⟩
    · cases h'

theorem get_spl {α : Type} {l ns : List α} {o i : Nat} (h : o + ns.length ≤ l.length) : (l.take o ++ ns ++ l.drop (o + ns.length))[i]? = if i < o then l[i]? else if i < o + ns.length then ns[i - o]? else l[i]? := by
  have ho : (l.take o).length = o := by simp; omega
  split
  · rename_i h1
    rw [List.getElem?_append_left (by simp; omega), List.getElem?_append_left (by omega)]
    simp [h1]
  · rename_i h1
    split
    · rename_i h2
      rw [List.getElem?_append_left (by simp; omega), List.getElem?_append_right (by omega), ho]
    · rename_i h2
      rw [List.getElem?_append_right (by simp; omega)]
      simp only [List.length_append, ho, List.getElem?_drop]
      congr 1
      omega

def subR (off len n : Nat) (rs : List (List D)) : List (List D) := if off = 0 ∧ len = n then rs else (rs.drop off).take len

def toD (H : Heap) : C → Option (D × Heap)
  | .d x => some (x, H)
  | .nils => some (.fz [], H)
  | .own id off len n => match hG H id with
    | some (.rows s rs _) => if n = rs.length ∧ off + len ≤ n then some (.fz (subR off len n rs), hP H id none) else none
    | _ => none
  | _ => none

def toDs (H : Heap) : List C → Option (List D × Heap)
  | [] => some ([], H)
  | c :: l => match toD H c with
    | some (d, H1) => match toDs H1 l with
      | some (ds, H2) => some (d :: ds, H2)
      | none => none
    | none => none

section
variable {E : Env} {B : Base} {x : Ctx} {O : Nat → Nat → Prop} {H : Heap}

theorem subR_eq {off len n : Nat} {rs : List (List D)} (h : n = rs.length) (h2 : off + len ≤ n) : subR off len n rs = (rs.drop off).take len := by
  unfold subR
  split
  · rename_i e
    rw [e.1, e.2, h]; simp
  · rfl

theorem toD_ok (hR : Rel B x O H) {c : C} {v : Value} {d : D} {H' : Heap} (hv : VR x c v) (h : toD H c = some (d, H')) :
    ∃ y O', y.w = x.w ∧ x.Le y ∧ Rel B y O' H' ∧ DR y.w y.F d v := by
  unfold toD at h
  split at h
  · cases h
    cases hv with | d _ _ hv => exact ⟨x, O, rfl, .refl x, hR, hv⟩
  · cases h
    cases hv with | nils => exact ⟨x, O, rfl, .refl x, hR, .nil _ _⟩
  · rename_i id off len n
    split at h
    · rename_i s rs tyB hb
      split at h
      · rename_i hc
        cases h
        obtain ⟨rfl, hle⟩ := hc
        have hb' := hG_some hb
        cases hv with | own _ _ _ _ _ hv =>
        have hN : x.N id = some (s, rs.length) := by rw [hR.hN]; exact nOf_some hb'
        have hv := (hv.2.2 s _ hN).2 rfl
        obtain ⟨y, O', hw, hle', hF, hR'⟩ := hR.freeze hb'
        refine ⟨y, O', hw, hle', by rw [hP_eq]; exact hR', ?_⟩
        rw [subR_eq rfl hle]
        obtain ⟨h0, hrs, hbk⟩ := hR.blk _ _ hb'
        split at hv
        · obtain ⟨rfl, rfl, rfl, _⟩ := hv
          simp only [List.take_zero]
          exact .nil _ _
        · rename_i b lo hμ
          obtain ⟨a, cap, sz, rfl, ha, hlo, q1, q2, q3, q4, q5⟩ := hv
          have hlen : ((rs.drop off).take len).length = len := by simp; omega
          by_cases hl : len = 0
          · subst hl
            simp only [List.take_zero]
            exact .nil _ _
          · have ha' := ha.resolve_left (by omega)
            subst ha'
            rcases hbk with ⟨hn, _⟩ | ⟨b', lo', vs, t, hμ', hO, hh, hl1, hl2, hcs⟩
            · rw [hn] at hμ; cases hμ
            · rw [hμ'] at hμ
              cases hμ
              have key : ∀ i r c d, ((rs.drop off).take len)[i]? = some r → r[c]? = some d → ∃ u, y.w.cell? ⟨b, (off - lo) * s + (i * s + c), none⟩ = some u ∧ DR y.w y.F d u := fun i r c d hi hd => by
                have hi2 : i < len := by have := (List.getElem?_eq_some_iff.1 hi).1; omega
                rw [List.getElem?_take, if_pos hi2, List.getElem?_drop] at hi
                obtain ⟨u, hu, hd'⟩ := hcs (off + i) r c d (by omega) hi hd
                refine ⟨u, ?_, hd'.mono hle'.F⟩
                rw [hw]
                simp only [World.cell?, hh]
                have e : (off + i - lo) * s = (off - lo) * s + i * s := by rw [← Nat.add_mul]; congr 1; omega
                rw [e, Nat.add_assoc] at hu
                simpa using hu
              have := DR.fz (w := y.w) (F := y.F) ((rs.drop off).take len) b ((off - lo) * s) cap s (fun i c => (y.w.cell? ⟨b, (off - lo) * s + (i * s + c), none⟩).getD undef) (by omega)
                (fun r hr => hrs r (List.mem_of_mem_drop (List.mem_of_mem_take hr))) ((hF b).2 (.inr hO))
                (fun i r c d hi hd => by obtain ⟨u, hu, _⟩ := key i r c d hi hd; rw [hu]; rfl)
                (fun i r c d hi hd => by obtain ⟨u, hu, hv⟩ := key i r c d hi hd; rw [hu]; exact hv)
              rw [hlen] at this
              exact this
      · cases h
    · cases h
  · cases h

theorem toDs_ok : ∀ {cs : List C} {x : Ctx} {O : Nat → Nat → Prop} {H : Heap} {ds : List D} {H' : Heap} {vs : List Value}, Rel B x O H → (vs.length = cs.length) → (∀ (i : Nat) c, cs[i]? = some c → ∃ u, vs[i]? = some u ∧ VR x c u) →
    toDs H cs = some (ds, H') → ∃ y O', y.w = x.w ∧ x.Le y ∧ Rel B y O' H' ∧ ds.length = cs.length ∧ ∀ (i : Nat) d, ds[i]? = some d → ∃ u, vs[i]? = some u ∧ DR y.w y.F d u
  | [], x, O, H, ds, H', vs, hR, hl, hv, h => by cases h; exact ⟨x, O, rfl, .refl x, hR, rfl, fun i d hd => by simp at hd⟩
  | c :: cs, x, O, H, ds, H', [], hR, hl, hv, h => by simp at hl
  | c :: cs, x, O, H, ds, H', v :: vs, hR, hl, hv, h => by
    simp only [toDs] at h
    split at h
    · rename_i d H1 h1
      split at h
      · rename_i ds' H2 h2
        cases h
        obtain ⟨u, hu, hvu⟩ := hv 0 c rfl
        cases hu
        obtain ⟨y, O1, e1, l1, R1, D1⟩ := toD_ok hR hvu h1
        obtain ⟨z, O2, e2, l2, R2, len2, D2⟩ := toDs_ok R1 (by simpa using hl) (fun i c hc => let ⟨u, hu, hvu⟩ := hv (i + 1) c hc; ⟨u, by simpa using hu, hvu.mono l1⟩) h2
        refine ⟨z, O2, e2.trans e1, l1.trans l2, R2, by simp [len2], fun i d' hd => ?_⟩
        cases i with
        | zero => cases hd; exact ⟨v, rfl, D1.mono l2.F⟩
        | succ i => obtain ⟨u, hu, hd'⟩ := D2 i d' (by simpa using hd); exact ⟨u, by simpa using hu, hd'⟩
      · cases h
    · cases h
end
end Go.Eng
namespace Go.Eng
open Go.RowKit
set_option linter.unusedVariables false
set_option linter.unusedSimpArgs false

def aBox (H : Heap) (a : A) (ty : Option TypeId := none) : Option (A × Heap) :=
  match cellsOf a with
  | some cs => some (.c (.ptr H.length 0 0 0), H ++ [some (.box cs ty)])
  | none => none

def aAlloc (E : Env) (H : Heap) (t : TypeId) : Option (A × Heap) :=
  match E.inf t with
  | some (_, _, z) => aBox H (cvA z) (E.ty t)
  | none => none

def fillC (E : Env) (t : TypeId) : List (Nat × A) → List C → Option (List C)
  | [], cs => some cs
  | (f, a) :: l, cs => match E.fld t f with
    | some (off, ft) => match cellsOf a, E.size ft with
      | some ns, some n => if ns.length = n then match splC off ns cs with | some r => fillC E t l r | none => none else none
      | _, _ => none
    | none => none

def aBuild (E : Env) (t : TypeId) (ps : List (Nat × A)) : Option A :=
  match E.inf t with
  | some (_, _, z) => match cellsOf (cvA z) with
    | some cs => match fillC E t ps cs with | some r => some (.agg r) | none => none
    | none => none
  | none => none

def rowsOf (H : Heap) (n : Nat) : Nat → List (Nat × A) → Option (List (List D) × Heap)
  | _, [] => some ([], H)
  | k, (i, a) :: l => if i = k then match cellsOf a with
      | some cs => if cs.length = n then match toDs H cs with
          | some (ds, H1) => match rowsOf H1 n (k + 1) l with
            | some (rs, H2) => some (ds :: rs, H2)
            | none => none
          | none => none
        else none
      | none => none
    else none

def aBuildSlice (E : Env) (H : Heap) (t : TypeId) (len : Nat) (ps : List (Nat × A)) : Option (A × Heap) :=
  match E.elt t with
  | some e => match E.size e with
    | some (n + 1) => if len = ps.length ∧ len * (n + 1) ≤ 16777216 then match rowsOf H (n + 1) 0 ps with
        | some (rs, H1) => some (.c (.own H1.length 0 len len), H1 ++ [some (.rows (n + 1) rs)])
        | none => none
      else none
    | _ => none
  | none => none

def zRow : List Value → Option (List D)
  | [] => some []
  | v :: l => match zRow l with
    | some r => match v with
      | .slice none 0 0 => some (.fz [] :: r)
      | v => some (.sc v :: r)
    | none => none

def aMake (E : Env) (H : Heap) (t : TypeId) (l c : A) : Option (A × Heap) :=
  match E.elt t with
  | some e => match E.inf e, sv l, sv c with
    | some (n + 1, b, z), some (.int _ i), some (.int _ k) =>
      if 0 ≤ i ∧ i ≤ k ∧ k ≤ 9223372036854775807 ∧ (b : Int) * k ≤ 281474976710656 then match zRow z.cells.toList with
        | some r => some (.c (.own H.length 0 i.toNat i.toNat), H ++ [some (.rows (n + 1) (List.replicate i.toNat r))])
        | none => none
      else none
    | _, _, _ => none
  | none => none

section
variable {E : Env} {B : Base} {x : Ctx} {O : Nat → Nat → Prop} {H : Heap}

def Outs (B : Base) (x : Ctx) (v : A) (H' : Heap) (u : Value) (w' : World) : Prop := ∃ y O', y.w = w' ∧ x.Le y ∧ Rel B y O' H' ∧ VA y v u

theorem heap_new (w : World) (o : Obj) : (w.alloc o).heap[w.heap.size]? = some o := by show (w.heap.push o)[w.heap.size]? = _; simp
theorem alloc_size (w : World) (o : Obj) : (w.alloc o).heap.size = w.heap.size + 1 := by show (w.heap.push o).size = _; simp
theorem heap_old (w : World) (o : Obj) {k : Nat} (h : k < w.heap.size) : (w.alloc o).heap[k]? = w.heap[k]? := Below.heap_alloc w o k h

theorem aBox_ok (hR : Rel B x O H) {a v : A} {u : Value} {H' : Heap} (ha : VA x a u) {ty : Option TypeId} (h : aBox H a ty = some (v, H')) (t : TypeId) (hty : ∀ t', ty = some t' → t' = t) :
    Outs B x v H' (.pointer (some ⟨x.w.heap.size, 0, none⟩)) (x.w.alloc (.cells u.cells t)) := by
  unfold aBox at h
  split at h
  · rename_i cs hc
    cases h
    obtain ⟨h1, _⟩ := cellsOf_ok ha hc
    obtain ⟨y, O', e1, l1, f1, m1, L1, R1⟩ := hR.new (.box cs ty) (x.w.alloc (.cells u.cells t)) (some (x.w.heap.size, 0)) (fun k => k = x.w.heap.size) rfl rfl rfl (by rw [alloc_size]; omega)
      (fun k hk => heap_old _ _ hk) (fun k hk => by subst hk; exact ⟨Nat.le_refl _, by rw [alloc_size]; omega⟩)
      (fun y hw hle hF hμ => ⟨_, u.cells, t, hμ, rfl, by rw [hw, show ty.getD t = t by cases ty with | none => rfl | some t' => exact hty _ rfl]; exact heap_new _ _, h1.mono hle⟩)
    refine ⟨y, O', e1, l1, R1, .c _ _ (.ptr _ _ _ _ _ ⟨rfl, by rw [L1]; omega, fun s m hN => ?_⟩)⟩
    have : y.N H.length = some (0, 0) := by rw [R1.hN]; exact nOf_some (b := .box cs ty) (by simp)
    rw [this] at hN
    cases hN
    exact ⟨Nat.le_refl _, fun _ => ⟨_, _, m1, Nat.le_refl _, by rw [if_neg (by omega), Nat.sub_zero, Nat.zero_mul]⟩⟩
  · cases h

theorem aAlloc_ok (hR : Rel B x O H) {v : A} {H' : Heap} {t : TypeId} (h : aAlloc E H t = some (v, H')) :
    ∃ u w', (Instr.alloc t true (.tuple #[])).run E.P x.w = .ok u w' ∧ Outs B x v H' u w' := by
  unfold aAlloc at h
  split at h
  · rename_i s b z hi
    refine ⟨_, _, ?_, aBox_ok hR (VA.cv x z) h t (E.hty t)⟩
    simp [Instr.alloc, zero_run hi, newVar, newRow]
  · cases h

theorem fill_struct {fs : Array Field} {t : TypeId} {places : Array (Nat × Nat)} (hu : E.und t = some (.struct fs)) (hp : ∀ f off ft n, E.fld t f = some (off, ft) → E.size ft = some n → places[f]? = some (off, n)) :
    ∀ {ps : List (Nat × A)} {vs : List (Nat × Value)} {cs r : List C} {cells : Array Value}, fillC E t ps cs = some r → CsR x cs cells →
      vs.length = ps.length → (∀ (i : Nat) p, ps[i]? = some p → ∃ u, vs[i]? = some (p.1, u) ∧ VA x p.2 u) → ∃ out, Instr.fill (places[·]?) cells vs = some out ∧ CsR x r out
  | [], vs, cs, r, cells, h, hc, hl, hv => by
    have : vs = [] := List.length_eq_zero_iff.1 (by simpa using hl)
    subst this
    cases h
    exact ⟨cells, rfl, hc⟩
  | (f, a) :: ps, [], cs, r, cells, h, hc, hl, hv => by simp at hl
  | (f, a) :: ps, (g, u) :: vs, cs, r, cells, h, hc, hl, hv => by
    simp only [fillC] at h
    split at h
    · rename_i off ft hf
      split at h
      · rename_i ns n hns hn
        split at h
        · rename_i hlen
          split at h
          · rename_i r' hr
            obtain ⟨u', hu', hva⟩ := hv 0 (f, a) rfl
            simp only [List.getElem?_cons_zero, Option.some.injEq, Prod.mk.injEq] at hu'
            obtain ⟨rfl, rfl⟩ := hu'
            obtain ⟨hcs, _⟩ := cellsOf_ok hva hns
            obtain ⟨q1, q2⟩ := splC_eq hr
            have hpl := hp g off ft n hf hn
            have hsz : u.cells.size = n := by rw [hcs.1, hlen]
            have hfold : ∀ (l : List Value) (k : Nat) (cells : Array Value), off + k + l.length ≤ cells.size →
                ((l.zipIdx k).foldl (fun (cs : Array Value) (p : Value × Nat) => cs.setIfInBounds (off + p.2) p.1) cells).toList = cells.toList.take (off + k) ++ l ++ cells.toList.drop (off + k + l.length) := by
              intro l
              induction l with
              | nil => intro k cells hk; simp
              | cons v l ih =>
                intro k cells hk
                simp only [List.zipIdx_cons, List.foldl_cons]
                rw [ih (k + 1) _ (by simp at hk ⊢; omega)]
                have hk' : off + k < cells.toList.length := by simp at hk ⊢; omega
                simp only [Array.toList_setIfInBounds]
                apply List.ext_getElem?
                intro i
                rw [get_spl (by simp at hk ⊢; omega), get_spl (l := cells.toList) (ns := v :: l) (o := off + k) (by simp at hk ⊢; omega)]
                simp only [List.getElem?_set, List.length_cons]
                by_cases e1 : i < off + k
                · rw [if_pos (by omega), if_neg (by omega), if_pos e1]
                · by_cases e2 : i = off + k
                  · subst e2
                    rw [if_pos (by omega), if_pos rfl, if_pos hk', if_neg (by omega), if_pos (by omega)]
                    simp
                  · rw [if_neg (by omega), if_neg e1]
                    by_cases e3 : i < off + k + (l.length + 1)
                    · rw [if_pos (by omega), if_pos e3, show i - (off + k) = (i - (off + (k + 1))) + 1 by omega, List.getElem?_cons_succ]
                    · rw [if_neg (by omega), if_neg e3, if_neg (by omega)]
            have hfit : off + u.cells.size ≤ cells.size := by rw [hcs.1, hc.1]; exact q1
            have hnew : CsR x r' ((u.cells.zipIdx.foldl (fun cs (c, j) => cs.setIfInBounds (off + j) c) cells)) := by
              have he : (u.cells.zipIdx.foldl (fun cs (c, j) => cs.setIfInBounds (off + j) c) cells).toList = cells.toList.take off ++ u.cells.toList ++ cells.toList.drop (off + u.cells.size) := by
                have := hfold u.cells.toList 0 cells (by simpa using hfit)
                simp only [Nat.add_zero, Array.length_toList] at this
                rw [← this, ← Array.foldl_toList, Array.toList_zipIdx]
              have hg : ∀ i : Nat, (u.cells.zipIdx.foldl (fun cs (c, j) => cs.setIfInBounds (off + j) c) cells)[i]? = if i < off then cells[i]? else if i < off + u.cells.size then u.cells[i - off]? else cells[i]? := fun i => by
                rw [← Array.getElem?_toList, he, ← Array.length_toList, get_spl (by simpa using hfit)]
                simp only [Array.getElem?_toList, Array.length_toList]
              have hszz : (u.cells.zipIdx.foldl (fun cs (c, j) => cs.setIfInBounds (off + j) c) cells).size = cells.size := by
                rw [← Array.length_toList, he]; simp; omega
              refine ⟨by rw [hszz, hc.1, q2]; simp; omega, fun i c hi => ?_⟩
              rw [q2, get_spl q1] at hi
              rw [hg i, hcs.1]
              split at hi
              · rename_i h1; rw [if_pos h1]; exact hc.2 i c hi
              · rename_i h1
                rw [if_neg h1]
                split at hi
                · rename_i h2; rw [if_pos h2]; exact hcs.2 _ c hi
                · rename_i h2; rw [if_neg h2]; exact hc.2 i c hi
            obtain ⟨out, ho, hco⟩ := fill_struct hu hp h hnew (by simpa using hl) (fun i p hi => by obtain ⟨w, hw, hv'⟩ := hv (i + 1) p (by simpa using hi); exact ⟨w, by simpa using hw, hv'⟩)
            refine ⟨out, ?_, hco⟩
            simp only [Instr.fill, hpl]
            rw [if_neg (by simp [hsz]; omega)]
            exact ho
          · cases h
        · cases h
      · cases h
    · cases h

theorem aBuild_ok {t : TypeId} {ps : List (Nat × A)} {vs : List (Nat × Value)} {v : A} (hl : vs.length = ps.length) (hv : ∀ (i : Nat) p, ps[i]? = some p → ∃ u, vs[i]? = some (p.1, u) ∧ VA x p.2 u)
    (h : aBuild E t ps = some v) (hst : ∃ fs, E.und t = some (.struct fs)) (w : World) : ∃ u, (Instr.build t vs.toArray).run E.P w = .ok u w ∧ VA x v u := by
  obtain ⟨fs, hu⟩ := hst
  have hall := E.hfl t fs hu
  unfold aBuild at h
  split at h
  · rename_i s b z hi
    split at h
    · rename_i cs hcs
      split at h
      · rename_i r hr
        cases h
        obtain ⟨h1, _⟩ := cellsOf_ok (VA.cv x z) hcs
        obtain ⟨it, q1, _, _, q2⟩ := inf_run hi
        have hm : ∀ l : List Field, (∀ f ∈ l, (E.P.info? f.type).isSome = true) → ∃ pl, l.mapM (fun f => (E.P.info? f.type).map fun i => (f.offset, i.size)) = some pl ∧
            ∀ (k : Nat) f, l[k]? = some f → ∃ i, E.P.info? f.type = some i ∧ pl[k]? = some (f.offset, i.size) := by
          intro l
          induction l with
          | nil => intro _; exact ⟨[], by simp, fun k f hk => by simp at hk⟩
          | cons f l ih =>
            intro hl
            obtain ⟨i, hn⟩ := Option.isSome_iff_exists.1 (hl f (by simp))
            obtain ⟨pl, h1, h2⟩ := ih (fun f hf => hl f (by simp [hf]))
            refine ⟨(f.offset, i.size) :: pl, by simp [List.mapM_cons, hn, h1], fun k g hk => ?_⟩
            cases k with
            | zero => cases hk; exact ⟨i, hn, rfl⟩
            | succ k => exact h2 k g hk
        obtain ⟨pl, hpl, hpl2⟩ := hm fs.toList (fun f hf => hall f (by simpa using hf))
        obtain ⟨out, ho, hco⟩ := fill_struct hu (places := pl.toArray) (fun f off ft n hf hn => by
          simp only [Env.fld, hu, Option.map_eq_some_iff, Prod.mk.injEq] at hf
          obtain ⟨d, hd, rfl, rfl⟩ := hf
          obtain ⟨i, hi, hk⟩ := hpl2 f d (by simpa using hd)
          simp only [Env.size, Option.map_eq_some_iff] at hn
          obtain ⟨⟨s', b', z'⟩, hn, rfl⟩ := hn
          obtain ⟨i', hi', hs', _⟩ := inf_run hn
          rw [hi] at hi'
          cases hi'
          simp [hk, hs']) hr h1 hl hv
        refine ⟨.agg out, run_build w t _ out ?_, .agg _ _ hco⟩
        simp only [Program.built, q1, E.hund _ _ hu, q2, hpl]
        exact ho
      · cases h
    · cases h
  · cases h

end
end Go.Eng
namespace Go.Eng
open Go.RowKit
set_option linter.unusedVariables false
set_option linter.unusedSimpArgs false

theorem flat_length {α : Type} {n : Nat} : ∀ {l : List (List α)}, (∀ r ∈ l, r.length = n) → l.flatten.length = l.length * n
  | [], _ => by simp
  | r :: l, h => by
    have h1 := flat_length (n := n) (l := l) (fun r hr => h r (List.mem_cons_of_mem _ hr))
    have h2 := h r (List.mem_cons_self ..)
    simp only [List.flatten_cons, List.length_append, List.length_cons, h1, h2]
    rw [Nat.add_mul]; omega

theorem flat_get {α : Type} {n : Nat} : ∀ {l : List (List α)}, (∀ r ∈ l, r.length = n) → ∀ (j c : Nat) r, l[j]? = some r → c < n → l.flatten[j * n + c]? = r[c]?
  | [], _, j, c, r, hj, _ => by simp at hj
  | r :: l, h, 0, c, r', hj, hc => by
    cases hj
    simp only [List.flatten_cons, Nat.zero_mul, Nat.zero_add]
    rw [List.getElem?_append_left (by rw [h r (by simp)]; exact hc)]
  | r :: l, h, j + 1, c, r', hj, hc => by
    simp only [List.flatten_cons]
    have hr : r.length = n := h r (by simp)
    rw [List.getElem?_append_right (by rw [hr, Nat.add_mul]; omega), hr, ← flat_get (l := l) (fun r hr => h r (List.mem_cons_of_mem _ hr)) j c r' (by simpa using hj) hc]
    congr 1
    rw [Nat.add_mul]; omega

section
variable {E : Env} {B : Base} {x : Ctx} {O : Nat → Nat → Prop} {H : Heap}

theorem fill_rows {n : Nat} : ∀ (vs : List (Nat × Value)) (k : Nat) (cells : Array Value), (∀ (j : Nat) p, vs[j]? = some p → p.1 = k + j ∧ p.2.cells.size = n) → (k + vs.length) * n ≤ cells.size →
    ∃ out, Instr.fill (fun i => some (i * n, n)) cells vs = some out ∧ out.toList = cells.toList.take (k * n) ++ (vs.map fun p => p.2.cells.toList).flatten ++ cells.toList.drop ((k + vs.length) * n)
  | [], k, cells, h, hs => ⟨cells, rfl, by simp⟩
  | (i, v) :: vs, k, cells, h, hs => by
    obtain ⟨h1, h2⟩ := h 0 (i, v) rfl
    simp only [Nat.add_zero] at h1 h2
    subst h1
    have hs' : i * n + n + vs.length * n ≤ cells.size := by
      have : (i + (vs.length + 1)) * n = i * n + n + vs.length * n := by simp only [Nat.add_mul, Nat.one_mul]; omega
      simp only [List.length_cons] at hs; omega
    have hfold : ∀ (l : List Value) (q : Nat) (cells : Array Value), i * n + q + l.length ≤ cells.size →
        ((l.zipIdx q).foldl (fun (cs : Array Value) (p : Value × Nat) => cs.setIfInBounds (i * n + p.2) p.1) cells).toList = cells.toList.take (i * n + q) ++ l ++ cells.toList.drop (i * n + q + l.length) := by
      intro l
      induction l with
      | nil => intro q cells hk; simp
      | cons v l ih =>
        intro q cells hk
        simp only [List.zipIdx_cons, List.foldl_cons]
        rw [ih (q + 1) _ (by simp at hk ⊢; omega)]
        have hk' : i * n + q < cells.toList.length := by simp at hk ⊢; omega
        simp only [Array.toList_setIfInBounds]
        apply List.ext_getElem?
        intro j
        rw [get_spl (by simp at hk ⊢; omega), get_spl (l := cells.toList) (ns := v :: l) (o := i * n + q) (by simp at hk ⊢; omega)]
        simp only [List.getElem?_set, List.length_cons]
        by_cases e1 : j < i * n + q
        · rw [if_pos (by omega), if_neg (by omega), if_pos e1]
        · by_cases e2 : j = i * n + q
          · subst e2
            rw [if_pos (by omega), if_pos rfl, if_pos hk', if_neg (by omega), if_pos (by omega)]
            simp
          · rw [if_neg (by omega), if_neg e1]
            by_cases e3 : j < i * n + q + (l.length + 1)
            · rw [if_pos (by omega), if_pos e3, show j - (i * n + q) = (j - (i * n + (q + 1))) + 1 by omega, List.getElem?_cons_succ]
            · rw [if_neg (by omega), if_neg e3, if_neg (by omega)]
    let nx := v.cells.zipIdx.foldl (fun cs (c, j) => cs.setIfInBounds (i * n + j) c) cells
    have he : nx.toList = cells.toList.take (i * n) ++ v.cells.toList ++ cells.toList.drop (i * n + n) := by
      have := hfold v.cells.toList 0 cells (by simp [h2]; omega)
      simp only [Nat.add_zero, Array.length_toList, h2] at this
      rw [← this]
      show (v.cells.zipIdx.foldl _ cells).toList = _
      rw [← Array.foldl_toList, Array.toList_zipIdx]
    have hsz : nx.size = cells.size := by rw [← Array.length_toList, he]; simp [h2]; omega
    obtain ⟨out, ho, hout⟩ := fill_rows vs (i + 1) nx (fun j p hj => by
      obtain ⟨q1, q2⟩ := h (j + 1) p (by simpa using hj)
      exact ⟨by omega, q2⟩) (by rw [hsz]; have : (i + 1 + vs.length) * n = i * n + n + vs.length * n := by simp only [Nat.add_mul, Nat.one_mul]
                                omega)
    refine ⟨out, ?_, ?_⟩
    · simp only [Instr.fill]
      rw [if_neg (by simp [h2]; omega)]
      exact ho
    · rw [hout, he]
      have e1 : (i + 1) * n = i * n + n := by rw [Nat.add_mul, Nat.one_mul]
      have e2 : (i + ((i, v) :: vs).length) * n = i * n + n + vs.length * n := by simp only [List.length_cons, Nat.add_mul, Nat.one_mul]; omega
      have e3 : (i + 1 + vs.length) * n = i * n + n + vs.length * n := by simp only [Nat.add_mul, Nat.one_mul]
      have l1 : (cells.toList.take (i * n)).length = i * n := by simp; omega
      have l2 : (cells.toList.take (i * n) ++ v.cells.toList).length = i * n + n := by simp [h2]; omega
      have t1 : (cells.toList.take (i * n) ++ v.cells.toList ++ cells.toList.drop (i * n + n)).take (i * n + n) = cells.toList.take (i * n) ++ v.cells.toList := by
        rw [← l2]; exact List.take_left
      have t2 : (cells.toList.take (i * n) ++ v.cells.toList ++ cells.toList.drop (i * n + n)).drop (i * n + n + vs.length * n) = cells.toList.drop (i * n + n + vs.length * n) := by
        rw [List.drop_append, l2, List.drop_eq_nil_of_le (by omega), List.nil_append, List.drop_drop]
        congr 1
        omega
      rw [e1, e2, e3, t1, t2]
      simp

theorem rowsOf_ok {n : Nat} : ∀ {ps : List (Nat × A)} {k : Nat} {x : Ctx} {O : Nat → Nat → Prop} {H : Heap} {rs : List (List D)} {H' : Heap} {vs : List (Nat × Value)}, Rel B x O H → vs.length = ps.length →
    (∀ (i : Nat) p, ps[i]? = some p → ∃ u, vs[i]? = some (p.1, u) ∧ VA x p.2 u) → rowsOf H n k ps = some (rs, H') →
    ∃ y O', y.w = x.w ∧ x.Le y ∧ Rel B y O' H' ∧ rs.length = ps.length ∧ (∀ (j : Nat) p, vs[j]? = some p → p.1 = k + j ∧ p.2.cells.size = n ∧ ∀ u ∈ p.2.cells.toList, one u = true) ∧
      (∀ r ∈ rs, r.length = n) ∧ ∀ (j : Nat) (r : List D) (c : Nat) (d : D), rs[j]? = some r → r[c]? = some d → ∃ (p : Nat × Value) (u : Value), vs[j]? = some p ∧ p.2.cells[c]? = some u ∧ DR y.w y.F d u
  | [], k, x, O, H, rs, H', vs, hR, hl, hv, h => by
    cases h
    have : vs = [] := List.length_eq_zero_iff.1 (by simpa using hl)
    subst this
    exact ⟨x, O, rfl, .refl x, hR, rfl, fun j p hj => by simp at hj, fun r hr => by simp at hr, fun j r c d hj => by simp at hj⟩
  | (i, a) :: ps, k, x, O, H, rs, H', [], hR, hl, hv, h => by simp at hl
  | (i, a) :: ps, k, x, O, H, rs, H', (g, u) :: vs, hR, hl, hv, h => by
    simp only [rowsOf] at h
    split at h
    · rename_i hik
      subst hik
      split at h
      · rename_i cs hcs
        split at h
        · rename_i hlen
          split at h
          · rename_i ds H1 h1
            split at h
            · rename_i rs' H2 h2
              cases h
              obtain ⟨u', hu', hva⟩ := hv 0 (i, a) rfl
              simp only [List.getElem?_cons_zero, Option.some.injEq, Prod.mk.injEq] at hu'
              obtain ⟨rfl, rfl⟩ := hu'
              obtain ⟨hcc, hone⟩ := cellsOf_ok hva hcs
              obtain ⟨y, O1, e1, l1, R1, len1, D1⟩ := toDs_ok (vs := u.cells.toList) hR (by simp [hcc.1]) (fun q c hq => by
                obtain ⟨w, hw, hvw⟩ := hcc.2 q c hq
                exact ⟨w, by simpa using hw, hvw⟩) h1
              obtain ⟨z, O2, e2, l2, R2, len2, V2, L2, D2⟩ := rowsOf_ok R1 (by simpa using hl) (fun q p hq => by
                obtain ⟨w, hw, hvw⟩ := hv (q + 1) p (by simpa using hq)
                exact ⟨w, by simpa using hw, hvw.mono l1⟩) h2
              refine ⟨z, O2, e2.trans e1, l1.trans l2, R2, by simp [len2], fun j p hj => ?_, fun r hr => ?_, fun j r c d hj hc => ?_⟩
              · cases j with
                | zero => cases hj; exact ⟨by simp, by rw [hcc.1]; exact hlen, hone⟩
                | succ j => obtain ⟨q1, q2, q3⟩ := V2 j p (by simpa using hj); exact ⟨by omega, q2, q3⟩
              · rcases List.mem_cons.1 hr with rfl | hr
                · rw [len1]; exact hlen
                · exact L2 r hr
              · cases j with
                | zero =>
                  cases hj
                  obtain ⟨w, hw, hd⟩ := D1 c d hc
                  exact ⟨_, w, rfl, by simpa using hw, hd.mono l2.F⟩
                | succ j =>
                  obtain ⟨p, w, q1, q2, q3⟩ := D2 j r c d (by simpa using hj) hc
                  exact ⟨p, w, by simpa using q1, q2, q3⟩
            · cases h
          · cases h
        · cases h
      · cases h
    · cases h

theorem rows_new (hR : Rel B x O H) {s m : Nat} {rs : List (List D)} (cells : Array Value) (t : TypeId) (w' : World) (hw : w' = x.w.alloc (.cells cells t) ∨ w' = x.w.drew.alloc (.cells cells t)) (hs : 0 < s)
    (hl : ∀ r ∈ rs, r.length = s) (hsz : rs.length * s ≤ cells.size) (hm : rs.length = m) (cap : Nat) (hcap : m ≤ cap) (hcs : cap * s ≤ cells.size)
    (hd : ∀ j r c d, rs[j]? = some r → r[c]? = some d → ∃ u, cells[j * s + c]? = some u ∧ DR x.w x.F d u) :
    Outs B x (.c (.own H.length 0 m m)) (H ++ [some (.rows s rs)]) (.slice (some ⟨x.w.heap.size, 0, none⟩) m cap) w' := by
  have hh : w'.heap = x.w.heap.push (.cells cells t) := by rcases hw with rfl | rfl <;> rfl
  have hos : w'.os = x.w.os ∧ w'.tape = x.w.tape ∧ w'.output = x.w.output := by rcases hw with rfl | rfl <;> exact ⟨rfl, rfl, rfl⟩
  have hnew : w'.heap[x.w.heap.size]? = some (.cells cells t) := by rw [hh]; simp
  obtain ⟨y, O', e1, l1, f1, m1, L1, R1⟩ := hR.new (.rows s rs) w' (some (x.w.heap.size, 0)) (fun k => k = x.w.heap.size) hos.1 hos.2.1 hos.2.2 (by rw [hh]; simp)
    (fun k hk => by rw [hh, Array.getElem?_push, if_neg (by omega)]) (fun k hk => by subst hk; exact ⟨Nat.le_refl _, by rw [hh]; simp⟩)
    (fun y hw' hle hF hμ => ⟨hs, hl, .inr ⟨_, 0, cells, t, hμ, rfl, by rw [hw']; exact hnew, Nat.zero_le _, by simpa using hsz, fun j r c d _ hj hc => by
      obtain ⟨u, hu, hv⟩ := hd j r c d hj hc
      exact ⟨u, by simpa using hu, hv.mono hle.F⟩⟩⟩)
  refine ⟨y, O', e1, l1, R1, .c _ _ (.own _ _ _ _ _ ⟨rfl, by rw [L1]; omega, fun s' m' hN => ?_⟩)⟩
  have : y.N H.length = some (s, rs.length) := by rw [R1.hN]; exact nOf_some (b := .rows s rs) (by simp)
  rw [this] at hN
  cases hN
  refine ⟨by omega, fun _ => ?_⟩
  rw [m1]
  exact ⟨_, cap, cells.size, rfl, .inr (by simp), Nat.le_refl _, by omega, by omega, hcap, by unfold bsz; rw [e1, hnew], by simpa using hcs⟩

theorem aBuildSlice_ok (hR : Rel B x O H) {t : TypeId} {len : Nat} {ps : List (Nat × A)} {vs : List (Nat × Value)} {v : A} {H' : Heap} (hl : vs.length = ps.length)
    (hv : ∀ (i : Nat) p, ps[i]? = some p → ∃ u, vs[i]? = some (p.1, u) ∧ VA x p.2 u) (h : aBuildSlice E H t len ps = some (v, H')) :
    ∃ u w', (Instr.buildSlice t len vs.toArray).run E.P x.w = .ok u w' ∧ Outs B x v H' u w' := by
  have et : ∀ {t e}, E.elt t = some e → E.und t = some (.slice e) := fun h => by unfold Env.elt at h; split at h; (cases h; assumption); cases h
  unfold aBuildSlice at h
  split at h
  · rename_i e he
    split at h
    · rename_i n hn
      split at h
      · rename_i hc
        obtain ⟨rfl, hbig⟩ := hc
        split at h
        · rename_i rs H1 hrs
          cases h
          have hinf : ∃ b z, E.inf e = some (n + 1, b, z) := by
            simp only [Env.size, Option.map_eq_some_iff] at hn
            obtain ⟨⟨s, b, z⟩, h1, h2⟩ := hn
            have h3 : s = n + 1 := h2
            subst h3
            exact ⟨b, z, h1⟩
          obtain ⟨b, z, hi⟩ := hinf
          obtain ⟨y, O1, e1, l1, R1, len1, V1, L1, D1⟩ := rowsOf_ok hR hl hv hrs
          let zero : Array Value := if ps.length * (n + 1) = 0 then #[] else z.cells
          obtain ⟨out, ho, hout⟩ := fill_rows (n := n + 1) vs 0 ((Array.range (ps.length * (n + 1))).map (zero[· % zero.size]!)) (fun j p hj => let ⟨q1, q2, _⟩ := V1 j p hj; ⟨q1, q2⟩) (by simp [hl])
          have hrun : (Instr.buildSlice t ps.length vs.toArray).run E.P x.w = .ok (.slice (some ⟨x.w.heap.size, 0, none⟩) ps.length ps.length) (x.w.alloc (.cells out e)) := by
            by_cases h0 : ps.length * (n + 1) = 0
            · simp only [zero, h0, if_true] at ho
              simp only [Instr.buildSlice, Sem.run_bind, und_run (et he), Env.size_run hn, Result.andThen_ok, Nat.succ_eq_add_one]
              rw [if_neg (by omega)]
              simp only [h0, if_true, pure_bind, Sem.run_bind, Sem.run_pure, Result.andThen_ok, ho]
              simp [newRow]
            · simp only [zero, h0, if_false] at ho
              simp only [Instr.buildSlice, Sem.run_bind, und_run (et he), Env.size_run hn, Result.andThen_ok, Nat.succ_eq_add_one]
              rw [if_neg (by omega)]
              simp only [h0, if_false, pure_bind, Sem.run_bind, Sem.run_pure, Result.andThen_ok, zero_run hi, ho]
              simp [newRow]
          have hflat : out.toList = (vs.map fun p => p.2.cells.toList).flatten := by
            rw [hout]
            simp [hl]
          have hrow : ∀ r ∈ (vs.map fun p => p.2.cells.toList), r.length = n + 1 := fun r hr => by
            obtain ⟨p, hp, rfl⟩ := List.mem_map.1 hr
            obtain ⟨j, hj⟩ := List.getElem?_of_mem hp
            simpa using (V1 j p hj).2.1
          have hsz : out.size = ps.length * (n + 1) := by
            rw [← Array.length_toList, hflat, flat_length hrow]; simp [hl]
          have key := rows_new R1 (m := ps.length) (rs := rs) (s := n + 1) out e (y.w.alloc (.cells out e)) (.inl rfl) (by omega) L1 (by rw [hsz, len1]; exact Nat.le_refl _) len1 ps.length (Nat.le_refl _) (by rw [hsz]; exact Nat.le_refl _)
            (fun j r c d hj hc => by
              obtain ⟨p, u, q1, q2, q3⟩ := D1 j r c d hj hc
              refine ⟨u, ?_, q3⟩
              have hc' : c < n + 1 := by rw [← L1 r (List.mem_of_getElem? hj)]; exact (List.getElem?_eq_some_iff.1 hc).1
              rw [← Array.getElem?_toList, hflat, flat_get hrow j c p.2.cells.toList (by simp [q1]) hc']
              simpa using q2)
          refine ⟨_, _, hrun, ?_⟩
          obtain ⟨z', O2, e2, l2, R2, V2⟩ := key
          exact ⟨z', O2, by rw [e2, e1], l1.trans l2, R2, by rw [← e1]; exact V2⟩
        · cases h
      · cases h
    · cases h
  · cases h

end
end Go.Eng
namespace Go.Eng
open Go.RowKit
set_option linter.unusedVariables false
set_option linter.unusedSimpArgs false

def aStore (E : Env) (H : Heap) (t : TypeId) (a v : A) : Option Heap :=
  match cellsOf v, E.size t with
  | some ns, some n => if ns.length = n then match a with
      | .c (.ptr id j off m) => match hG H id with
        | some (.box cs ty) => if j = 0 ∧ m = 0 then match splC off ns cs with
            | some r => some (hP H id (some (.box r ty)))
            | none => none
          else none
        | some (.rows _ _ _) => match toDs H ns with
          | some (ds, H1) => match hG H1 id with
            | some (.rows s rs ty) => if m = rs.length ∧ j < rs.length then match splC off ds (rowsAt rs j) with
                | some r => some (hP H1 id (some (.rows s (rs.set j r) ty)))
                | none => none
              else none
            | _ => none
          | none => none
        | _ => none
      | _ => none
    else none
  | _, _ => none

def xsOf (H : Heap) : A → Option (List (List D))
  | .c (.d (.fz rs)) => some rs
  | .c .nils => some []
  | .c (.own id off len n) => match hG H id with
    | some (.rows s rs _) => if n = rs.length ∧ off + len ≤ n then some (subR off len n rs) else none
    | _ => none
  | .c (.d (.sc (.string s))) => some ((bl s).map fun b => [.sc (.int .u8 b.toNat)])
  | _ => none

def okTy : Option TypeId → TypeId → Bool
  | none, _ => true
  | some t, e => t == e
theorem okTy_ok {ty : Option TypeId} {e : TypeId} (h : okTy ty e = true) : ty.getD e = e := by
  cases ty with
  | none => rfl
  | some t => exact of_decide_eq_true h

def aApp (E : Env) (H : Heap) (t t2 : TypeId) (s y : A) : Option (A × Heap) :=
  match E.elt t with
  | some e => match E.inf e with
    | some (sz + 1, by_, _) => if E.noInt t2 = true then match xsOf H y with
      | some xs => match s with
        | .c .nils => if (∀ r ∈ xs, r.length = sz + 1) ∧ xs.length ≤ 9223372036854775807 ∧ xs.length * by_ ≤ 140737488355328 then
            some (.c (.own H.length 0 xs.length xs.length), H ++ [some (.rows (sz + 1) xs)]) else none
        | .c (.own id off len n) => match hG H id with
          | some (.rows z rs ty) => if okTy ty e = true ∧ (∀ r ∈ xs, r.length = sz + 1) ∧ n = rs.length ∧ z = sz + 1 ∧ off + len = n ∧ len + xs.length ≤ 9223372036854775807 ∧ (len + xs.length) * by_ ≤ 140737488355328 then
              some (.c (.own id off (len + xs.length) (n + xs.length)), hP H id (some (.rows z (rs ++ xs) ty))) else none
          | _ => none
        | _ => none
      | none => none
    else none
    | _ => none
  | none => none

section
variable {E : Env} {B : Base} {x : Ctx} {O : Nat → Nat → Prop} {H : Heap}

theorem zRow_ok (w : World) (F : Nat → Prop) : ∀ {l : List Value} {r : List D}, zRow l = some r → allOne l = true → r.length = l.length ∧ ∀ (i : Nat) d, r[i]? = some d → ∃ u, l[i]? = some u ∧ DR w F d u
  | [], r, h, _ => by cases h; simp
  | v :: l, r, h, ho => by
    simp only [allOne, Bool.and_eq_true] at ho
    simp only [zRow] at h
    split at h
    · rename_i r' hr
      obtain ⟨h1, h2⟩ := zRow_ok w F hr ho.2
      have h' : ∃ d, r = d :: r' ∧ DR w F d v := by
        split at h
        · cases h; exact ⟨_, rfl, .nil _ _⟩
        · cases h; exact ⟨_, rfl, .sc _ ho.1⟩
      obtain ⟨d, rfl, hd⟩ := h'
      refine ⟨by simp [h1], fun i d' hd' => ?_⟩
      cases i with
      | zero => cases hd'; exact ⟨v, rfl, hd⟩
      | succ i => exact h2 i d' (by simpa using hd')
    · cases h

theorem aMake_ok (hR : Rel B x O H) {t : TypeId} {l c v : A} {p q : Value} {H' : Heap} (hl : VA x l p) (hc : VA x c q) (h : aMake E H t l c = some (v, H')) :
    ∃ u w', (Instr.makeSlice t p q).run E.P x.w = .ok u w' ∧ Outs B x v H' u w' := by
  have et : ∀ {t e}, E.elt t = some e → E.und t = some (.slice e) := fun h => by unfold Env.elt at h; split at h; (cases h; assumption); cases h
  unfold aMake at h
  split at h
  · rename_i e he
    split at h
    · rename_i n b z k1 i k2 k hi h1 h2
      obtain ⟨rfl, _⟩ := sv_eq h1 hl
      obtain ⟨rfl, _⟩ := sv_eq h2 hc
      split at h
      · rename_i hcnd
        obtain ⟨h0, hik, hk, hb⟩ := hcnd
        split at h
        · rename_i r hr
          cases h
          obtain ⟨it, q1, q2, q3, q4⟩ := inf_run hi
          obtain ⟨hz1, hz2⟩ := E.hz _ _ _ _ hi
          obtain ⟨r1, r2⟩ := zRow_ok x.w x.F hr hz2
          have hr' := run_make (P := E.P) x.w t e it z (E.hund _ _ (et he)) q1 q4 k1 k2 i k h0 hik (by rw [q3]; exact hb) hk
          refine ⟨_, _, hr', ?_⟩
          rw [q2]
          have hki : i.toNat ≤ k.toNat := by omega
          refine rows_new hR (m := i.toNat) (s := n + 1) (rs := List.replicate i.toNat r) _ e _ (.inl rfl) (by omega) (fun r' hr' => ?_) ?_ (by simp) k.toNat hki (by rw [size_madeCells]; exact Nat.le_refl _) (fun j r' c d hj hd => ?_)
          · rw [(List.mem_replicate.1 hr').2, r1]; simpa using hz1
          · rw [size_madeCells, List.length_replicate]; exact Nat.mul_le_mul_right _ hki
          · have hji : j < i.toNat := by have := (List.getElem?_eq_some_iff.1 hj).1; simpa using this
            have hre : r' = r := by
              rw [List.getElem?_replicate, if_pos hji] at hj
              exact (Option.some.inj hj).symm
            subst hre
            obtain ⟨u, hu, hdr⟩ := r2 c d hd
            have hc : c < n + 1 := by have := (List.getElem?_eq_some_iff.1 hd).1; rw [r1] at this; simpa [hz1] using this
            refine ⟨u, ?_, hdr⟩
            have hlt : j * (n + 1) + c < k.toNat * (n + 1) := by
              have : (j + 1) * (n + 1) ≤ k.toNat * (n + 1) := Nat.mul_le_mul_right _ (by omega)
              rw [Nat.add_mul, Nat.one_mul] at this
              omega
            have hmod : (j * (n + 1) + c) % (n + 1) = c := by rw [Nat.add_comm, Nat.add_mul_mod_self_right, Nat.mod_eq_of_lt hc]
            have hcz : c < z.cells.size := by rw [hz1]; exact hc
            have hu' : z.cells[c] = u := by
              have : z.cells[c]? = some u := by simpa using hu
              rw [Array.getElem?_eq_getElem hcz] at this
              exact Option.some.inj this
            simp [madeCells, hlt, hz1, hmod]
            rw [getElem!_pos z.cells c hcz, hu']
        · cases h
      · cases h
    · cases h
  · cases h

theorem setRow_size (w : World) (g : Nat) (cs : Array Value) : (w.setRow g cs).heap.size = w.heap.size := by simp [World.setRow]

theorem get_spl_arr {vs ns : List Value} {off i : Nat} (h : off + ns.length ≤ vs.length) : (vs.take off ++ ns ++ vs.drop (off + ns.length)).toArray[i]? = if i < off then vs[i]? else if i < off + ns.length then ns[i - off]? else vs[i]? := by
  rw [List.getElem?_toArray, get_spl h]

theorem CsR.spl {cs ns r : List C} {off : Nat} {vs us : Array Value} (hr : splC off ns cs = some r) (hc : CsR x cs vs) (hn : CsR x ns us) :
    CsR x r (vs.toList.take off ++ us.toList ++ vs.toList.drop (off + us.toList.length)).toArray := by
  obtain ⟨q1, q2⟩ := splC_eq hr
  have h1 : off + us.toList.length ≤ vs.toList.length := by simp [hn.1, hc.1]; exact q1
  refine ⟨by rw [q2]; simp [hn.1, hc.1], fun i c hi => ?_⟩
  rw [get_spl_arr h1]
  rw [q2, get_spl q1] at hi
  simp only [Array.length_toList, hn.1, Array.getElem?_toList]
  split at hi
  · rename_i h; rw [if_pos h]; exact hc.2 i c hi
  · rename_i h
    rw [if_neg h]
    split at hi
    · rename_i h'; rw [if_pos h']; exact hn.2 _ c hi
    · rename_i h'; rw [if_neg h']; exact hc.2 i c hi

theorem aStore_ok (hR : Rel B x O H) {t : TypeId} {a v : A} {p u : Value} {H' : Heap} (ha : VA x a p) (hv : VA x v u) (h : aStore E H t a v = some H') :
    ∃ w', (Instr.storeAt t p u).run E.P x.w = .ok () w' ∧ ∃ y O', y.w = w' ∧ x.Le y ∧ Rel B y O' H' := by
  unfold aStore at h
  split at h
  · rename_i ns n hns hn
    split at h
    · rename_i hlen
      obtain ⟨hcn, hone⟩ := cellsOf_ok hv hns
      have hsz : u.cells.size = n := by rw [hcn.1, hlen]
      have hone' : ∀ w ∈ u.cells.toList, w.oneCell' = true := fun w hw => one_oneCell (hone w hw)
      split at h
      · rename_i id j off m
        cases ha with | c _ _ ha => cases ha with | ptr _ _ _ _ _ ha =>
        split at h
        · rename_i cs ty hb
          split at h
          · rename_i hj
            obtain ⟨rfl, rfl⟩ := hj
            split at h
            · rename_i r hr
              cases h
              have hb' := hG_some hb
              obtain ⟨s, b, lo, hN, hμ, hlo, rfl, hne⟩ := ptr_ok hR ha (by simp [livePtr, hb])
              obtain ⟨b', vs, tt, hμ', hO, hh, hcs⟩ := hR.blk _ _ hb'
              rw [hμ] at hμ'
              cases hμ'
              obtain ⟨q1, q2⟩ := splC_eq hr
              have hrun := run_storeCells_at E.P b off (ty.getD tt) u.cells.toList 0 vs x.w hh (by simp [hsz, hcs.1, ← hlen]; exact q1) hone'
              simp only [Nat.add_zero] at hrun
              refine ⟨x.w.setRow b (vs.toList.take off ++ u.cells.toList ++ vs.toList.drop (off + u.cells.toList.length)).toArray, ?_, ?_⟩
              · simp only [Instr.storeAt, Instr.sureAddr, pure_bind, storeVar, Sem.run_bind, Env.size_run hn, Result.andThen_ok, hsz, ne_eq, not_true, if_false, Nat.zero_mul, Nat.zero_sub, Nat.zero_add]
                exact hrun
              · obtain ⟨y, O', e1, l1, f1, m1, R1⟩ := hR.upd hb' (b' := .box r ty) (x.w.setRow b (vs.toList.take off ++ u.cells.toList ++ vs.toList.drop (off + u.cells.toList.length)).toArray) (some (b, 0)) (O id) rfl rfl rfl (by rw [setRow_size]; exact Nat.le_refl _)
                  (fun k hk hno => setRow_other _ _ _ _ (fun e => hno (e ▸ hO))) (fun k hk => ⟨.inl hk, by rw [setRow_size]; exact (hR.own id k hk).1⟩)
                  ⟨rfl, Nat.le_refl _, fun _ => ⟨hμ.symm, fun g lo hg => by
                    rw [hμ] at hg
                    cases hg
                    unfold bsz
                    rw [setRow_heap _ _ _ _ _ _ hh, hh]
                    simp [hsz]
                    have := hcs.1
                    omega⟩⟩
                  (fun y hw hle hF hμ' => ⟨b, _, tt, hμ', hO, by rw [hw]; exact setRow_heap _ _ _ _ _ _ hh, (CsR.spl hr hcs hcn).mono hle⟩)
                exact ⟨y, O', e1, l1, by rw [hP_eq]; exact R1⟩
            · cases h
          · cases h
        · rename_i s0 rs0 tyB hb0
          split at h
          · rename_i ds H1 hds
            obtain ⟨y, O1, e1, l1, R1, len1, D1⟩ := toDs_ok (vs := u.cells.toList) hR (by simp [hcn.1]) (fun q c hq => by
                obtain ⟨w, hw, hvw⟩ := hcn.2 q c hq
                exact ⟨w, by simpa using hw, hvw⟩) hds
            split at h
            · rename_i s rs ty hb
              split at h
              · rename_i hj
                obtain ⟨rfl, hj⟩ := hj
                split at h
                · rename_i r hr
                  cases h
                  have hb' := hG_some hb
                  have ha' := ha.mono l1
                  obtain ⟨s', b, lo, hN, hμ, hlo, rfl, hne⟩ := ptr_ok R1 ha' (by simp [livePtr, hb])
                  have hss : s' = s := by
                    rw [R1.hN, nOf_some hb'] at hN
                    simp only [Blk.n, Option.some.injEq, Prod.mk.injEq] at hN
                    exact hN.1.symm
                  subst hss
                  obtain ⟨hs0, hrs, hbk⟩ := R1.blk _ _ hb'
                  rcases hbk with ⟨hn', _⟩ | ⟨b', lo', vs, tt, hμ', hO, hh, hl1, hl2, hcs⟩
                  · rw [hn'] at hμ; cases hμ
                  · rw [hμ] at hμ'
                    cases hμ'
                    obtain ⟨q1, q2⟩ := splC_eq hr
                    have hrow := rowsAt_get hj
                    have hrl : (rowsAt rs j).length = s' := hrs _ (List.mem_of_getElem? hrow)
                    have hdl : ds.length = u.cells.size := by rw [len1, hcn.1]
                    have hjj : (j - lo) * s' + s' ≤ (rs.length - lo) * s' := by
                      have : (j - lo + 1) * s' ≤ (rs.length - lo) * s' := Nat.mul_le_mul_right _ (by omega)
                      rw [Nat.add_mul, Nat.one_mul] at this
                      exact this
                    have hfit : (j - lo) * s' + off + u.cells.size ≤ vs.size := by rw [hrl, hdl] at q1; omega
                    have hrun := run_storeCells_at E.P b ((j - lo) * s' + off) (ty.getD tt) u.cells.toList 0 vs y.w hh (by simpa using hfit) hone'
                    simp only [Nat.add_zero] at hrun
                    refine ⟨y.w.setRow b (vs.toList.take ((j - lo) * s' + off) ++ u.cells.toList ++ vs.toList.drop ((j - lo) * s' + off + u.cells.toList.length)).toArray, ?_, ?_⟩
                    · simp only [Instr.storeAt, Instr.sureAddr, pure_bind, storeVar, Sem.run_bind, Env.size_run hn, Result.andThen_ok, hsz, ne_eq, not_true, if_false]
                      rw [← e1]
                      exact hrun
                    · obtain ⟨z, O', e2, l2, f2, m2, R2⟩ := R1.upd hb' (b' := .rows s' (rs.set j r) ty) (y.w.setRow b (vs.toList.take ((j - lo) * s' + off) ++ u.cells.toList ++ vs.toList.drop ((j - lo) * s' + off + u.cells.toList.length)).toArray) (some (b, lo)) (O1 id) rfl rfl rfl (by rw [setRow_size]; exact Nat.le_refl _)
                        (fun k hk hno => setRow_other _ _ _ _ (fun e => hno (e ▸ hO))) (fun k hk => ⟨.inl hk, by rw [setRow_size]; exact (R1.own id k hk).1⟩)
                        ⟨rfl, by simp [Blk.n], fun _ => ⟨hμ.symm, fun g lo2 hg => by
                          rw [hμ] at hg
                          cases hg
                          unfold bsz
                          rw [setRow_heap _ _ _ _ _ _ hh, hh]
                          simp [hsz]
                          omega⟩⟩
                        (fun z hw hle hF hμ' => by
                          have hrl' : r.length = s' := by rw [q2]; simp; omega
                          refine ⟨hs0, fun r' hr' => ?_, .inr ⟨b, lo, _, tt, hμ', hO, by rw [hw]; exact setRow_heap _ _ _ _ _ _ hh, by simpa using hl1, by simp; omega, fun i r' c d hi hr' hd => ?_⟩⟩
                          · rcases List.mem_or_eq_of_mem_set hr' with h | h
                            · exact hrs _ h
                            · rw [h]; exact hrl'
                          · have hfit' : (j - lo) * s' + off + u.cells.toList.length ≤ vs.toList.length := by simpa using hfit
                            rw [get_spl_arr hfit']
                            simp only [Array.length_toList, Array.getElem?_toList]
                            rw [List.getElem?_set] at hr'
                            have hc : c < s' := by
                              have h1 := (List.getElem?_eq_some_iff.1 hd).1
                              split at hr'
                              · rename_i e
                                simp only [← e, hj, if_true, Option.some.injEq] at hr'
                                rw [← hr'] at h1
                                omega
                              · rw [← hrs _ (List.mem_of_getElem? hr')]; exact h1
                            by_cases e : j = i
                            · subst e
                              rw [if_pos rfl, if_pos hj] at hr'
                              cases hr'
                              rw [q2, get_spl q1] at hd
                              split at hd
                              · rename_i h1
                                rw [if_pos (by omega)]
                                obtain ⟨uu, hu, hdr⟩ := hcs j _ c d hi hrow hd
                                exact ⟨uu, hu, hdr.mono hle.F⟩
                              · rename_i h1
                                rw [if_neg (by omega)]
                                split at hd
                                · rename_i h2
                                  rw [if_pos (by rw [hdl] at h2; omega)]
                                  obtain ⟨uu, hu, hdr⟩ := D1 _ d hd
                                  refine ⟨uu, ?_, hdr.mono hle.F⟩
                                  rw [show (j - lo) * s' + c - ((j - lo) * s' + off) = c - off by omega]
                                  simpa using hu
                                · rename_i h2
                                  rw [if_neg (by rw [hdl] at h2; omega)]
                                  obtain ⟨uu, hu, hdr⟩ := hcs j _ c d hi hrow hd
                                  exact ⟨uu, hu, hdr.mono hle.F⟩
                            · rw [if_neg e] at hr'
                              obtain ⟨uu, hu, hdr⟩ := hcs i r' c d hi hr' hd
                              refine ⟨uu, ?_, hdr.mono hle.F⟩
                              rw [hrl, hdl] at q1
                              by_cases h1 : i < j
                              · have : (i - lo) * s' + s' ≤ (j - lo) * s' := by
                                  have : (i - lo + 1) * s' ≤ (j - lo) * s' := Nat.mul_le_mul_right _ (by omega)
                                  rw [Nat.add_mul, Nat.one_mul] at this
                                  exact this
                                rw [if_pos (by omega)]
                                exact hu
                              · have : (j - lo) * s' + s' ≤ (i - lo) * s' := by
                                  have : (j - lo + 1) * s' ≤ (i - lo) * s' := Nat.mul_le_mul_right _ (by omega)
                                  rw [Nat.add_mul, Nat.one_mul] at this
                                  exact this
                                rw [if_neg (by omega), if_neg (by omega)]
                                exact hu)
                      exact ⟨z, O', e2, l1.trans l2, by rw [hP_eq]; exact R2⟩
                · cases h
              · cases h
            · cases h
          · cases h
        · cases h
      · cases h
    · cases h
  · cases h

end
end Go.Eng
namespace Go.Eng
open Go.RowKit
set_option linter.unusedVariables false
set_option linter.unusedSimpArgs false

section
variable {E : Env} {B : Base} {x : Ctx} {O : Nat → Nat → Prop} {H : Heap}

theorem cells_list {w : World} {b o s : Nat} {xs : List (List D)} {F : Nat → Prop} (hs : ∀ r ∈ xs, r.length = s)
    (h : ∀ (i : Nat) (r : List D) (c : Nat) (d : D), xs[i]? = some r → r[c]? = some d → ∃ u, w.cell? ⟨b, o + (i * s + c), none⟩ = some u ∧ DR w F d u) :
    ∃ news : List Value, news.length = xs.length * s ∧ (∀ (j : Nat) v, news[j]? = some v → w.cell? ⟨b, o + j, none⟩ = some v) ∧ (∀ v ∈ news, one v = true) ∧
      ∀ (i : Nat) (r : List D) (c : Nat) (d : D), xs[i]? = some r → r[c]? = some d → ∃ u, news[i * s + c]? = some u ∧ DR w F d u := by
  have key : ∀ j, j < xs.length * s → ∃ u d, w.cell? ⟨b, o + j, none⟩ = some u ∧ DR w F d u := fun j hj => by
    have hs0 : 0 < s := by rcases Nat.eq_zero_or_pos s with h | h; (subst h; simp at hj); exact h
    have hi : j / s < xs.length := Nat.div_lt_of_lt_mul (by rw [Nat.mul_comm]; exact hj)
    have hrow := rowsAt_get hi
    have hc : j % s < (rowsAt xs (j / s)).length := by rw [hs _ (List.mem_of_getElem? hrow)]; exact Nat.mod_lt _ hs0
    obtain ⟨u, h1, h2⟩ := h (j / s) _ (j % s) _ hrow (List.getElem?_eq_getElem hc)
    refine ⟨u, _, ?_, h2⟩
    have e : j / s * s + j % s = j := by rw [Nat.mul_comm]; exact Nat.div_add_mod j s
    rwa [e] at h1
  refine ⟨(List.range (xs.length * s)).map fun j => (w.cell? ⟨b, o + j, none⟩).getD undef, by simp, fun j v hj => ?_, fun v hv => ?_, fun i r c d hi hd => ?_⟩
  · have hlt : j < xs.length * s := by have := (List.getElem?_eq_some_iff.1 hj).1; simpa using this
    obtain ⟨u, d, h1, h2⟩ := key j hlt
    simp [hlt, h1] at hj
    rw [h1, hj]
  · simp only [List.mem_map, List.mem_range] at hv
    obtain ⟨j, hj, rfl⟩ := hv
    obtain ⟨u, d, h1, h2⟩ := key j hj
    rw [h1]; exact h2.one
  · obtain ⟨u, h1, h2⟩ := h i r c d hi hd
    refine ⟨u, ?_, h2⟩
    have hil : i < xs.length := (List.getElem?_eq_some_iff.1 hi).1
    have hcl : c < s := by rw [← hs _ (List.mem_of_getElem? hi)]; exact (List.getElem?_eq_some_iff.1 hd).1
    have hlt : i * s + c < xs.length * s := by
      have : (i + 1) * s ≤ xs.length * s := Nat.mul_le_mul_right _ hil
      rw [Nat.add_mul, Nat.one_mul] at this
      omega
    simp [hlt, h1]

theorem firstCells_zero {P : Program} (s : Nat) (a : Option Addr) (l cap : Nat) (w : World) : (Builtin.firstCells s 0 (.slice a l cap)).run P w = .ok #[] w := by
  cases a <;> simp [Builtin.firstCells, loadCells, loadCellsFrom]

theorem xsOf_ok (hR : Rel B x O H) {y : A} {u : Value} {xs : List (List D)} {s : Nat} (hs : ∀ r ∈ xs, r.length = s) (hs0 : 0 < s) (ha : VA x y u) (h : xsOf H y = some xs) :
    ∃ news : List Value, Builtin.lenOf u = pure xs.length ∧ (∀ w', w'.heap = x.w.heap → (Builtin.firstCells s xs.length u).run E.P w' = .ok news.toArray w') ∧ news.length = xs.length * s ∧
      (∀ v ∈ news, one v = true) ∧ ∀ (i : Nat) (r : List D) (c : Nat) (d : D), xs[i]? = some r → r[c]? = some d → ∃ uu, news[i * s + c]? = some uu ∧ DR x.w x.F d uu := by
  have cell' : ∀ {w' : World}, w'.heap = x.w.heap → ∀ a, w'.cell? a = x.w.cell? a := fun h a => by unfold World.cell?; rw [h]
  unfold xsOf at h
  split at h
  · cases h
    cases ha with | c _ _ ha => cases ha with | d _ _ ha => cases ha with
    | nil a cap => exact ⟨[], rfl, fun w' _ => firstCells_zero _ _ _ _ _, by simp, by simp, fun i r c d hi => by simp at hi⟩
    | fz _ b o cap s' uu hcap hss hF hcc hd =>
      by_cases hne : xs = []
      · subst hne
        exact ⟨[], rfl, fun w' _ => firstCells_zero _ _ _ _ _, by simp, by simp, fun i r c d hi => by simp at hi⟩
      · have e : s' = s := by
          obtain ⟨r, hr⟩ := List.exists_mem_of_ne_nil _ hne
          rw [← hs r hr, hss r hr]
        subst e
        obtain ⟨news, n1, n2, n3, n4⟩ := cells_list hs (fun i r c d hi hd' => ⟨_, hcc i r c d hi hd', hd i r c d hi hd'⟩)
        refine ⟨news, rfl, fun w' hw => run_firstCells_some w' s' xs.length _ _ _ news n1 (fun j v hj => ?_), n1, n3, n4⟩
        rw [add_off, cell' hw]
        exact n2 j v hj
  · cases h
    cases ha with | c _ _ ha => cases ha with | nils =>
    exact ⟨[], rfl, fun w' _ => firstCells_zero _ _ _ _ _, by simp, by simp, fun i r c d hi => by simp at hi⟩
  · rename_i id off len n
    split at h
    · rename_i z rs tyB hb
      split at h
      · rename_i hc
        cases h
        obtain ⟨rfl, hle⟩ := hc
        have hb' := hG_some hb
        cases ha with | c _ _ ha => cases ha with | own _ _ _ _ _ ha =>
        have hN : x.N id = some (z, rs.length) := by rw [hR.hN]; exact nOf_some hb'
        have hv := (ha.2.2 z _ hN).2 rfl
        rw [subR_eq rfl hle] at hs ⊢
        have hlen : ((rs.drop off).take len).length = len := by simp; omega
        obtain ⟨h0, hrs, hbk⟩ := hR.blk _ _ hb'
        split at hv
        · obtain ⟨rfl, rfl, rfl, _⟩ := hv
          simp only [List.take_zero] at hs ⊢
          exact ⟨[], rfl, fun w' _ => firstCells_zero _ _ _ _ _, by simp, by simp, fun i r c d hi => by simp at hi⟩
        · rename_i b lo hμ
          obtain ⟨a, cap, sz, rfl, ha2, hlo, q1, q2, q3, q4, q5⟩ := hv
          by_cases hl : len = 0
          · subst hl
            simp only [List.take_zero] at hs ⊢
            exact ⟨[], rfl, fun w' _ => firstCells_zero _ _ _ _ _, by simp, by simp, fun i r c d hi => by simp at hi⟩
          · have ha' := ha2.resolve_left (by omega)
            subst ha'
            rcases hbk with ⟨hn, _⟩ | ⟨b', lo', vs, t, hμ', hO, hh, hl1, hl2, hcs⟩
            · rw [hn] at hμ; cases hμ
            · rw [hμ] at hμ'
              cases hμ'
              have e : z = s := by
                obtain ⟨r, hr⟩ := List.exists_mem_of_ne_nil _ (show (rs.drop off).take len ≠ [] from fun hn => by rw [hn] at hlen; simp at hlen; omega)
                rw [← hs r hr, hrs r (List.mem_of_mem_drop (List.mem_of_mem_take hr))]
              subst e
              have key : ∀ (i : Nat) (r : List D) (c : Nat) (d : D), ((rs.drop off).take len)[i]? = some r → r[c]? = some d → ∃ u, x.w.cell? ⟨b, (off - lo) * z + (i * z + c), none⟩ = some u ∧ DR x.w x.F d u := fun i r c d hi hd => by
                have hi2 : i < len := by have := (List.getElem?_eq_some_iff.1 hi).1; omega
                rw [List.getElem?_take, if_pos hi2, List.getElem?_drop] at hi
                obtain ⟨u, hu, hd'⟩ := hcs (off + i) r c d (by omega) hi hd
                refine ⟨u, ?_, hd'⟩
                simp only [World.cell?, hh]
                have e : (off + i - lo) * z = (off - lo) * z + i * z := by rw [← Nat.add_mul]; congr 1; omega
                rw [e, Nat.add_assoc] at hu
                simpa using hu
              obtain ⟨news, n1, n2, n3, n4⟩ := cells_list hs key
              rw [hlen] at n1 ⊢
              refine ⟨news, rfl, fun w' hw => run_firstCells_some w' z len _ _ _ news n1 (fun j v hj => ?_), n1, n3, n4⟩
              rw [add_off, cell' hw]
              exact n2 j v hj
      · cases h
    · cases h
  · rename_i st
    cases h
    cases ha with | c _ _ ha => cases ha with | d _ _ ha => cases ha with | sc =>
    by_cases hne : (bl st) = []
    · refine ⟨[], ?_, fun w' _ => ?_, by simp [hne], by simp, fun i r c d hi => by simp [hne] at hi⟩
      · simp [Builtin.lenOf, size_bl]
      · simp [Builtin.firstCells, hne]
    · have e : s = 1 := by
        obtain ⟨b, hb⟩ := List.exists_mem_of_ne_nil _ hne
        exact (hs _ (List.mem_map.2 ⟨b, hb, rfl⟩)).symm
      subst e
      refine ⟨(bl st).map fun b => .int .u8 b.toNat, by simp [Builtin.lenOf, size_bl], fun w' _ => ?_, by simp, by simp [one], fun i r c d hi hd => ?_⟩
      · simp only [Builtin.firstCells, List.length_map]
        have : (st.extract 0 (bl st).length) = st := by rw [← size_bl]; simp
        rw [this]
        simp [bl]
        apply Array.ext'
        simp
      · simp only [List.getElem?_map, Option.map_eq_some_iff] at hi
        obtain ⟨b, hb, rfl⟩ := hi
        cases c with
        | zero =>
          cases hd
          exact ⟨.int .u8 b.toNat, by simp [hb], .sc _ rfl⟩
        | succ c => simp at hd
  · cases h

theorem app_zero {t t2 ty e : TypeId} {sz by_ : Nat} {z : Value} (ht : E.und t = some (.slice e)) (hi : E.inf e = some (sz, by_, z)) (h2 : E.noInt t2 = true)
    {base : Option Addr} {n cap : Nat} {xv : Value} {w : World} (hx : Builtin.lenOf xv = pure 0) (hf : (Builtin.firstCells sz 0 xv).run E.P w = .ok #[] w) (hc : n ≤ cap) :
    (Builtin.append_ #[t, t2] ty #[.slice base n cap, xv]).run E.P w = .ok (.slice base n cap) w := by
  obtain ⟨i, q1, q2, q3, q4⟩ := inf_run hi
  rcases noInt_run h2 with ⟨_, hd⟩ | hd <;> cases base <;> simp [Builtin.append_, und_run ht, und_run hd, sizeOf, typeInfo, q1, q2, hx, hc, hf, storeCells]

theorem aApp_ok (hR : Rel B x O H) {t t2 ty : TypeId} {s y v : A} {p u : Value} {H' : Heap} (hs : VA x s p) (hy : VA x y u) (h : aApp E H t t2 s y = some (v, H')) :
    ∃ r w', (Builtin.append_ #[t, t2] ty #[p, u]).run E.P x.w = .ok r w' ∧ Outs B x v H' r w' := by
  have et : ∀ {t e}, E.elt t = some e → E.und t = some (.slice e) := fun h => by unfold Env.elt at h; split at h; (cases h; assumption); cases h
  unfold aApp at h
  split at h
  · rename_i e he
    split at h
    · rename_i sz by_ z hi
      split at h
      · rename_i hni
        split at h
        · rename_i xs hxs
          obtain ⟨hz1, _⟩ := E.hz _ _ _ _ hi
          split at h
          · -- nil
            split at h
            · rename_i hc
              obtain ⟨hall, h63, hb⟩ := hc
              cases h
              cases hs with | c _ _ hs => cases hs with | nils =>
              obtain ⟨news, n1, n2, n3, n4, n5⟩ := xsOf_ok hR hall (by omega) hy hxs
              by_cases hm : xs.length = 0
              · have hx0 : xs = [] := List.length_eq_zero_iff.1 hm
                subst hx0
                refine ⟨_, _, app_zero (et he) hi hni (w := x.w) n1 (by have := n2 x.w rfl; have e : news = [] := List.length_eq_zero_iff.1 (by simpa using n3); rw [e] at this; exact this) (Nat.le_refl 0), ?_⟩
                obtain ⟨z', O', e1, l1, f1, m1, L1, R1⟩ := hR.new (.rows (sz + 1) []) x.w none (fun _ => False) rfl rfl rfl (Nat.le_refl _) (fun _ _ => rfl) (fun k hk => hk.elim)
                  (fun y hw hle hF hμ => ⟨by omega, by simp, .inl ⟨hμ, rfl⟩⟩)
                refine ⟨z', O', e1, l1, R1, .c _ _ (.own _ _ _ _ _ ⟨rfl, by rw [L1]; omega, fun s' m' hN => ?_⟩)⟩
                have : z'.N H.length = some (sz + 1, 0) := by rw [R1.hN]; exact nOf_some (b := .rows (sz + 1) []) (by simp)
                rw [this] at hN
                cases hN
                exact ⟨Nat.le_refl _, fun _ => by rw [m1]; simp⟩
              · have hr := app_grow (ty := ty) (et he) hi hni (base := none) (n := 0) (cap := 0) (olds := []) (w := x.w) n1 n2 (fun w' _ => by simp [Builtin.firstCells]) (by omega) (by omega) (by simpa using hb)
                simp only [Nat.zero_add] at hr
                refine ⟨_, _, hr, ?_⟩
                have hge := grownCap_ge x.w xs.length 0 e
                have hsz : ((([] : List Value).toArray ++ news.toArray ++ Builtin.zeroCells z.cells (grownCap x.w xs.length 0 e - xs.length)) : Array Value).size = grownCap x.w xs.length 0 e * (sz + 1) := by
                  simp [size_zeroCells, n3, hz1, ← Nat.add_mul]
                  congr 1
                  omega
                refine rows_new hR _ e _ (.inr rfl) (by omega) hall (by rw [hsz]; exact Nat.mul_le_mul_right _ hge) rfl _ hge (by rw [hsz]; exact Nat.le_refl _) (fun j r c d hj hd => ?_)
                obtain ⟨uu, hu, hdr⟩ := n5 j r c d hj hd
                refine ⟨uu, ?_, hdr⟩
                have hlt := (List.getElem?_eq_some_iff.1 hu).1
                rw [Array.getElem?_append_left (by simp; exact hlt)]
                simpa using hu
            · cases h
          · -- an own one
            rename_i id off len n
            split at h
            · rename_i zz rs rty hb0
              split at h
              · rename_i hc
                obtain ⟨hoty, hall, rfl, rfl, htip, h63, hb⟩ := hc
                have hoty := okTy_ok hoty
                cases h
                have hb' := hG_some hb0
                cases hs with | c _ _ hs => cases hs with | own _ _ _ _ _ hs =>
                have hN : x.N id = some (sz + 1, rs.length) := by rw [hR.hN]; exact nOf_some hb'
                have hv := (hs.2.2 _ _ hN).2 rfl
                obtain ⟨news, n1, n2, n3, n4, n5⟩ := xsOf_ok hR hall (by omega) hy hxs
                obtain ⟨h0, hrs, hbk⟩ := hR.blk _ _ hb'
                have hlt : id < H.length := (List.getElem?_eq_some_iff.1 hb').1
                by_cases hm : xs.length = 0
                · have hx0 : xs = [] := List.length_eq_zero_iff.1 hm
                  subst hx0
                  have hH : hP H id (some (Blk.rows (sz + 1) (rs ++ []) rty)) = H := by
                    rw [hP_eq, List.append_nil]
                    apply List.ext_getElem?
                    intro i
                    rw [List.getElem?_set]
                    split
                    · rename_i e'; subst e'; rw [hb']
                    · rfl
                  rw [hH]
                  have hsl : ∃ base cap, p = .slice base len cap ∧ len ≤ cap := by
                    split at hv
                    · obtain ⟨rfl, _, rfl, _⟩ := hv; exact ⟨_, _, rfl, Nat.le_refl _⟩
                    · obtain ⟨a, cap, _, rfl, _, _, _, _, q, _⟩ := hv; exact ⟨_, _, rfl, q⟩
                  obtain ⟨base, cap, rfl, hcap⟩ := hsl
                  refine ⟨_, _, app_zero (et he) hi hni (w := x.w) n1 (by have := n2 x.w rfl; have e : news = [] := List.length_eq_zero_iff.1 (by simpa using n3); rw [e] at this; exact this) hcap, ?_⟩
                  exact ⟨x, O, rfl, .refl x, hR, .c _ _ (.own _ _ _ _ _ hs)⟩
                · have hown : ∀ (w' : World) (m' : Nat × Nat) (cap' : Nat), w'.os = x.w.os → w'.tape = x.w.tape → w'.output = x.w.output → x.w.heap.size ≤ w'.heap.size →
                      (∀ k, k < x.w.heap.size → ¬ O id k → w'.heap[k]? = x.w.heap[k]?) → (O id m'.1 ∨ m'.1 = x.w.heap.size) → m'.2 ≤ off → len + xs.length ≤ cap' →
                      (∃ vs t, w'.heap[m'.1]? = some (.cells vs (rty.getD t) (0, 0)) ∧ (off + cap' - m'.2) * (sz + 1) ≤ vs.size ∧ ∀ (i : Nat) (r : List D) (c : Nat) (d : D), m'.2 ≤ i → (rs ++ xs)[i]? = some r → r[c]? = some d → ∃ uu, vs[(i - m'.2) * (sz + 1) + c]? = some uu ∧ DR x.w x.F d uu) →
                      Outs B x (.c (.own id off (len + xs.length) (rs.length + xs.length))) (hP H id (some (.rows (sz + 1) (rs ++ xs) rty))) (.slice (some ⟨m'.1, (off - m'.2) * (sz + 1), none⟩) (len + xs.length) cap') w' := by
                    rintro w' ⟨b, lo⟩ cap' k1 k2 k3 k4 k5 k6 k7 k8 ⟨vs, tt, k9, k10, k11⟩
                    simp only at k6 k7 k9 k10 k11
                    have hbsz : b < w'.heap.size := (Array.getElem?_eq_some_iff.1 k9).1
                    obtain ⟨y', O', e1, l1, f1, m1, R1⟩ := hR.upd hb' (b' := .rows (sz + 1) (rs ++ xs) rty) w' (some (b, lo)) (fun k => k = b) k1 k2 k3 k4 k5
                      (fun k hk => by subst hk; exact ⟨k6.imp (fun h => h) (fun h => by omega), hbsz⟩)
                      ⟨rfl, by simp [Blk.n], fun he => by simp only [Blk.n, List.length_append] at he; omega⟩
                      (fun y hw hle hF hμ => ⟨h0, fun r hr => (List.mem_append.1 hr).elim (hrs r) (hall r), .inr ⟨b, lo, vs, tt, hμ, rfl, by rw [hw]; exact k9, by simp; omega, by
                        refine Nat.le_trans (Nat.mul_le_mul_right _ ?_) k10
                        simp
                        omega, fun i r c d hi hr hd => let ⟨uu, hu, hdr⟩ := k11 i r c d hi hr hd; ⟨uu, hu, hdr.mono hle.F⟩⟩⟩)
                    refine ⟨y', O', e1, l1, by rw [hP_eq]; exact R1, .c _ _ (.own _ _ _ _ _ ⟨rfl, Nat.lt_of_lt_of_le hs.2.1 l1.L, fun s' m' hN' => ?_⟩)⟩
                    have : y'.N id = some (sz + 1, rs.length + xs.length) := by rw [R1.hN, nOf_some (b := .rows (sz + 1) (rs ++ xs) rty) (by simp [hlt])]; simp [Blk.n]
                    rw [this] at hN'
                    cases hN'
                    refine ⟨Nat.le_refl _, fun _ => ?_⟩
                    rw [m1]
                    exact ⟨_, cap', vs.size, rfl, .inr rfl, k7, by omega, by omega, k8, by rw [e1]; unfold bsz; rw [k9], k10⟩
                  split at hv
                  · -- there is no block yet
                    rename_i hμ
                    obtain ⟨rfl, rfl, rfl, hn0⟩ := hv
                    have hrs0 : rs = [] := List.length_eq_zero_iff.1 hn0
                    subst hrs0
                    have hr := app_grow (ty := ty) (et he) hi hni (base := none) (n := 0) (cap := 0) (olds := []) (w := x.w) n1 n2 (fun w' _ => by simp [Builtin.firstCells]) (by omega) (by omega) (by simpa using hb)
                    simp only [Nat.zero_add] at hr
                    refine ⟨_, _, hr, ?_⟩
                    have hge := grownCap_ge x.w xs.length 0 e
                    have hsz : ((([] : List Value).toArray ++ news.toArray ++ Builtin.zeroCells z.cells (grownCap x.w xs.length 0 e - xs.length)) : Array Value).size = grownCap x.w xs.length 0 e * (sz + 1) := by
                      simp [size_zeroCells, n3, hz1, ← Nat.add_mul]
                      congr 1
                      omega
                    have := hown (x.w.drew.alloc (.cells (([] : List Value).toArray ++ news.toArray ++ Builtin.zeroCells z.cells (grownCap x.w xs.length 0 e - xs.length)) e)) (x.w.heap.size, 0) (grownCap x.w xs.length 0 e) rfl rfl rfl (by rw [alloc_size]; exact Nat.le_succ _)
                      (fun k hk _ => heap_old _ _ hk) (.inr rfl) (Nat.le_refl _) (by omega) ⟨_, e, by rw [hoty]; exact heap_new _ _, by rw [hsz]; simp, fun i r c d _ hi' hd => by
                        simp only [List.nil_append] at hi'
                        obtain ⟨uu, hu, hdr⟩ := n5 i r c d hi' hd
                        refine ⟨uu, ?_, hdr⟩
                        have hlt := (List.getElem?_eq_some_iff.1 hu).1
                        rw [Array.getElem?_append_left (by simp; exact hlt)]
                        simpa using hu⟩
                    simpa using this
                  · rename_i b lo hμ
                    obtain ⟨a, cap, ss, rfl, ha2, hlo, q1, q2, q3, q4, q5⟩ := hv
                    rcases hbk with ⟨hn, _⟩ | ⟨b', lo', vs, tt, hμ', hO, hh, hl1, hl2, hcs⟩
                    · rw [hn] at hμ; cases hμ
                    · rw [hμ] at hμ'
                      cases hμ'
                      have hss : ss = vs.size := by unfold bsz at q4; rw [hh] at q4; exact (Option.some.inj q4).symm
                      subst hss
                      by_cases hroom : len + xs.length ≤ cap
                      · have ha' := ha2.resolve_left (by omega)
                        subst ha'
                        have eN : (off - lo) * (sz + 1) + len * (sz + 1) = (rs.length - lo) * (sz + 1) := by rw [← Nat.add_mul]; congr 1; omega
                        have hfit : (off - lo) * (sz + 1) + len * (sz + 1) + news.length ≤ vs.size := by
                          rw [n3, eN, ← Nat.add_mul]
                          refine Nat.le_trans (Nat.mul_le_mul_right _ ?_) q5
                          omega
                        have hr := app_room (ty := ty) (et he) hi hni (w := x.w) n1 n2 n4 hh hroom hfit
                        refine ⟨_, _, hr, ?_⟩
                        refine hown _ (b, lo) cap rfl rfl rfl (by rw [setRow_size]; exact Nat.le_refl _) (fun k hk hno => setRow_other _ _ _ _ (fun e => hno (e ▸ hO))) (.inl hO) hlo hroom ⟨_, tt, setRow_heap _ _ _ _ _ _ hh, by simp; omega, fun i r c d hi' hr' hd => ?_⟩
                        rw [get_spl_arr (by simpa using hfit), eN]
                        simp only [Array.getElem?_toList]
                        by_cases hir : i < rs.length
                        · rw [List.getElem?_append_left hir] at hr'
                          have hc : c < sz + 1 := by rw [← hrs _ (List.mem_of_getElem? hr')]; exact (List.getElem?_eq_some_iff.1 hd).1
                          have : (i - lo) * (sz + 1) + (sz + 1) ≤ (rs.length - lo) * (sz + 1) := by
                            have : (i - lo + 1) * (sz + 1) ≤ (rs.length - lo) * (sz + 1) := Nat.mul_le_mul_right _ (by omega)
                            rw [Nat.add_mul, Nat.one_mul] at this
                            exact this
                          rw [if_pos (by omega)]
                          exact hcs i r c d hi' hr' hd
                        · rw [List.getElem?_append_right (by omega)] at hr'
                          obtain ⟨uu, hu, hdr⟩ := n5 _ r c d hr' hd
                          refine ⟨uu, ?_, hdr⟩
                          have hlt2 := (List.getElem?_eq_some_iff.1 hu).1
                          have e3 : (i - lo) * (sz + 1) + c = (rs.length - lo) * (sz + 1) + ((i - rs.length) * (sz + 1) + c) := by
                            rw [← Nat.add_assoc, ← Nat.add_mul]; congr 2; omega
                          rw [e3, if_neg (by omega), if_pos (by omega)]
                          rw [Nat.add_sub_cancel_left]
                          exact hu
                      · have holds : ∃ olds : List Value, olds.length = len * (sz + 1) ∧ (∀ w', w'.heap = x.w.heap → (Builtin.firstCells (sz + 1) len (.slice (some a) len cap)).run E.P w' = .ok olds.toArray w') ∧
                            ∀ (i : Nat) (r : List D) (c : Nat) (d : D), (rs.drop off)[i]? = some r → r[c]? = some d → ∃ u, olds[i * (sz + 1) + c]? = some u ∧ DR x.w x.F d u := by
                          have hdl : (rs.drop off).length = len := by simp; omega
                          by_cases hl0 : len = 0
                          · subst hl0
                            refine ⟨[], by simp, fun w' _ => firstCells_zero _ _ _ _ _, fun i r c d hi' => ?_⟩
                            have := (List.getElem?_eq_some_iff.1 hi').1
                            omega
                          · have ha' := ha2.resolve_left (by omega)
                            subst ha'
                            obtain ⟨olds, o1, o2, o3, o4⟩ := cells_list (w := x.w) (F := x.F) (b := b) (o := (off - lo) * (sz + 1)) (xs := rs.drop off) (s := sz + 1) (fun r hr => hrs r (List.mem_of_mem_drop hr)) (fun i r c d hi' hd => by
                              rw [List.getElem?_drop] at hi'
                              obtain ⟨uu, hu, hdr⟩ := hcs (off + i) r c d (by omega) hi' hd
                              refine ⟨uu, ?_, hdr⟩
                              simp only [World.cell?, hh]
                              have e5 : (off + i - lo) * (sz + 1) = (off - lo) * (sz + 1) + i * (sz + 1) := by rw [← Nat.add_mul]; congr 1; omega
                              rw [e5, Nat.add_assoc] at hu
                              simpa using hu)
                            rw [hdl] at o1
                            refine ⟨olds, o1, fun w' hw => run_firstCells_some w' (sz + 1) len _ _ _ olds o1 (fun j v hj => ?_), o4⟩
                            have := o2 j v hj
                            rw [add_off]
                            unfold World.cell? at this ⊢
                            rw [hw]
                            exact this
                        obtain ⟨olds, o1, o2, o3⟩ := holds
                        have hr := app_grow (ty := ty) (et he) hi hni (base := some a) (n := len) (cap := cap) (olds := olds) (w := x.w) n1 n2 o2 (by omega) h63 hb
                        refine ⟨_, _, hr, ?_⟩
                        have hge := grownCap_ge x.w (len + xs.length) cap e
                        have hsz : ((olds.toArray ++ news.toArray ++ Builtin.zeroCells z.cells (grownCap x.w (len + xs.length) cap e - (len + xs.length))) : Array Value).size = grownCap x.w (len + xs.length) cap e * (sz + 1) := by
                          simp only [Array.size_append, List.size_toArray, size_zeroCells, n3, o1, hz1, ← Nat.add_mul, Nat.succ_eq_add_one]
                          congr 1
                          omega
                        have := hown (x.w.drew.alloc (.cells (olds.toArray ++ news.toArray ++ Builtin.zeroCells z.cells (grownCap x.w (len + xs.length) cap e - (len + xs.length))) e)) (x.w.heap.size, off) (grownCap x.w (len + xs.length) cap e) rfl rfl rfl (by rw [alloc_size]; exact Nat.le_succ _)
                          (fun k hk _ => heap_old _ _ hk) (.inr rfl) (Nat.le_refl _) hge ⟨_, e, by rw [hoty]; exact heap_new _ _, by rw [hsz]; simp, fun i r c d hi' hr' hd => by
                            have hc : c < sz + 1 := by
                              have h1 := (List.getElem?_eq_some_iff.1 hd).1
                              rcases List.mem_append.1 (List.mem_of_getElem? hr') with h | h
                              · rw [← hrs r h]; exact h1
                              · rw [← hall r h]; exact h1
                            by_cases hir : i < rs.length
                            · rw [List.getElem?_append_left hir] at hr'
                              have e6 : (rs.drop off)[i - off]? = some r := by rw [List.getElem?_drop, show off + (i - off) = i by omega]; exact hr'
                              obtain ⟨uu, hu, hdr⟩ := o3 _ r c d e6 hd
                              refine ⟨uu, ?_, hdr⟩
                              have hlt2 := (List.getElem?_eq_some_iff.1 hu).1
                              rw [Array.getElem?_append_left (by simp; omega), Array.getElem?_append_left (by simpa using hlt2)]
                              simpa using hu
                            · rw [List.getElem?_append_right (by omega)] at hr'
                              obtain ⟨uu, hu, hdr⟩ := n5 _ r c d hr' hd
                              refine ⟨uu, ?_, hdr⟩
                              have hlt2 := (List.getElem?_eq_some_iff.1 hu).1
                              have e3 : (i - off) * (sz + 1) + c = len * (sz + 1) + ((i - rs.length) * (sz + 1) + c) := by
                                rw [← Nat.add_assoc, ← Nat.add_mul]; congr 2; omega
                              rw [e3, Array.getElem?_append_left (by simp; omega), Array.getElem?_append_right (by simp; omega)]
                              simp only [List.size_toArray, o1, Nat.add_sub_cancel_left]
                              simpa using hu⟩
                        simpa using this
              · cases h
            · cases h
          · cases h
        · cases h
      · cases h
    · cases h
  · cases h

end
end Go.Eng
namespace Go.Eng
open Go.RowKit
set_option linter.unusedVariables false
set_option linter.unusedSimpArgs false

def mfind (q : IntKind) (k : Int) : List (Value × Value) → Option (Option (Nat × Value))
  | [] => some none
  | (.int q' a, v) :: l => if q = q' then (if k = a then some (some (0, v)) else match mfind q k l with | some (some (i, u)) => some (some (i + 1, u)) | r => r) else none
  | _ :: _ => none

def mapOf (H : Heap) : A → Option (Nat × List (Value × Value))
  | .c (.ptr id j o n) => if j = 0 ∧ o = 0 ∧ n = 1 then match hG H id with | some (.mp es) => some (id, es) | _ => none else none
  | _ => none

def lookA (ok : Bool) (v : Value) (b : Bool) : Option A := if one v = true then some (if ok = true then .tup [sc v, sc (.bool b)] else sc v) else none

def Env.ikey (E : Env) (t : TypeId) : Option TypeId := match E.und t with | some (.map k e) => (match E.und k with | some (.int _) => some e | _ => none) | _ => none
def Env.zer (E : Env) (t : TypeId) : Option Value := match E.inf t with | some (_, _, z) => some z | _ => none

def lookB (E : Env) (e : TypeId) (ok : Bool) : Option (Option (Nat × Value)) → Option A
  | some (some (_, v)) => lookA ok v true
  | some none => match E.zer e with | some z => lookA ok z false | none => none
  | none => none

def aLookup (E : Env) (H : Heap) (t : TypeId) (m k : A) (ok : Bool) : Option A :=
  match E.ikey t, sv k, mapOf H m with
  | some e, some (.int q k), some (_, es) => lookB E e ok (mfind q k es)
  | _, _, _ => none

def mput (q : IntKind) (k : Int) (v : Value) (es : List (Value × Value)) : Option (Option (Nat × Value)) → Option (List (Value × Value))
  | some none => some (es ++ [(.int q k, v)])
  | some (some (i, _)) => some (es.set i (.int q k, v))
  | none => none

def putB (H : Heap) (id : Nat) : Option (List (Value × Value)) → Option Heap
  | some es => some (hP H id (some (.mp es)))
  | none => none

def aMapUpdate (E : Env) (H : Heap) (t : TypeId) (m k v : A) : Option Heap :=
  match E.ikey t, sv k, sv v, mapOf H m with
  | some _, some (.int q k), some v, some (id, es) => putB H id (mput q k v es (mfind q k es))
  | _, _, _, _ => none

def aMakeMap (H : Heap) : Option A → Option (A × Heap)
  | none => some (.c (.ptr H.length 0 0 1), H ++ [some (.mp [])])
  | some _ => none

def setB (w : World) (b : Nat) (o : Obj) : World := { w with heap := w.heap.setIfInBounds b o }
theorem setB_same {w : World} {b : Nat} {o : Obj} (h : b < w.heap.size) : (setB w b o).heap[b]? = some o := by simp [setB, h]
theorem setB_other {w : World} {b k : Nat} {o : Obj} (h : k ≠ b) : (setB w b o).heap[k]? = w.heap[k]? := by
  unfold setB
  exact Array.getElem?_setIfInBounds_ne (Ne.symm h)
theorem setB_size (w : World) (b : Nat) (o : Obj) : (setB w b o).heap.size = w.heap.size := by simp [setB]
theorem get_map {P : Program} {w : World} {r : Nat} {es : Array MapEntry} {clock : Nat} (hb : w.heap[r]? = some (.map es clock)) : (getObj r).run P w = .ok (.map es clock) w := by
  simp [getObj, Sem.run, hb]
theorem set_map {P : Program} {w : World} {r : Nat} {es : Array MapEntry} {clock : Nat} (o : Obj) (hb : w.heap[r]? = some (.map es clock)) : (setObj r o).run P w = .ok () (setB w r o) := by
  simp [setObj, Sem.run, hb, setB]

def ekv (e : MapEntry) : Value × Value := (e.key, e.val)

theorem mfind_ok {q q0 : IntKind} {k : Int} : ∀ {es : List MapEntry} {r : Option (Nat × Value)} (n : Nat), mfind q k (es.map ekv) = some r →
    Instr.findNow (.int q0) (.int q k) es n = some (r.map fun p => (p.1 + n, p.2)) ∧ ∀ i v, r = some (i, v) → ∃ e, es[i]? = some e ∧ e.key = .int q k
  | [], r, n, h => by
    simp only [List.map_nil, mfind, Option.some.injEq] at h
    subst h
    exact ⟨rfl, fun i v h => by cases h⟩
  | e :: es, r, n, h => by
    obtain ⟨key, val, born⟩ := e
    simp only [List.map_cons, ekv] at h
    unfold mfind at h
    split at h
    · rename_i heq; cases heq
    · rename_i q' a v l heq
      simp only [List.cons.injEq, Prod.mk.injEq] at heq
      obtain ⟨⟨rfl, rfl⟩, rfl⟩ := heq
      split at h
      · rename_i hq
        subst hq
        split at h
        · rename_i ha
          subst ha
          cases h
          refine ⟨by simp [Instr.findNow, Instr.sameNow], fun i v h => ?_⟩
          cases h
          exact ⟨_, rfl, rfl⟩
        · rename_i ha
          have hs : Instr.findNow (.int q0) (.int q k) (⟨.int q a, val, born⟩ :: es) n = Instr.findNow (.int q0) (.int q k) es (n + 1) := by simp [Instr.findNow, Instr.sameNow, beq_eq_false_iff_ne.2 ha]
          rw [hs]
          split at h
          · rename_i i u hi
            cases h
            obtain ⟨h1, h2⟩ := mfind_ok (q0 := q0) (n + 1) hi
            refine ⟨by rw [h1]; simp [Nat.add_comm, Nat.add_left_comm], fun j w hj => ?_⟩
            cases hj
            obtain ⟨e, he, hk⟩ := h2 i u rfl
            exact ⟨e, by simpa using he, hk⟩
          · rename_i hne
            obtain ⟨h1, h2⟩ := mfind_ok (q0 := q0) (n + 1) h
            cases r with
            | none => exact ⟨h1, fun i v h => by cases h⟩
            | some p => exact absurd h (by intro h; exact hne p.1 p.2 h)
      · cases h
    · cases h

section
variable {E : Env} {B : Base} {x : Ctx} {O : Nat → Nat → Prop} {H : Heap}

theorem mapOf_ok (hR : Rel B x O H) {m : A} {v : Value} (hm : VA x m v) {id : Nat} {es : List (Value × Value)} (h : mapOf H m = some (id, es)) :
    H[id]? = some (some (.mp es)) ∧ ∃ b ents clock, x.μ id = some (b, 0) ∧ O id b ∧ v = .map (some b) ∧ x.w.heap[b]? = some (.map ents clock) ∧ ents.toList.map ekv = es := by
  unfold mapOf at h
  split at h
  · rename_i id' j o n
    split at h
    · rename_i hc
      obtain ⟨rfl, rfl, rfl⟩ := hc
      split at h
      · rename_i es' hb
        cases h
        have hb' := hG_some hb
        refine ⟨hb', ?_⟩
        cases hm with | c _ _ hm => cases hm with | ptr _ _ _ _ _ hm =>
        obtain ⟨b, ents, ck, h1, h2, h3, h4⟩ := hR.blk _ _ hb'
        obtain ⟨b', lo, q1, q2, q3⟩ := (hm.2.2 0 1 (by rw [hR.hN]; exact nOf_some hb')).2 rfl
        rw [h1] at q1
        cases q1
        exact ⟨b, ents, ck, h1, h2, q3, h3, h4⟩
      · cases h
    · cases h
  · cases h

theorem Env.ikey_und {t e : TypeId} (h : E.ikey t = some e) : ∃ k q, E.und t = some (.map k e) ∧ E.und k = some (.int q) := by
  unfold Env.ikey at h
  split at h
  · rename_i k e' hu
    split at h
    · rename_i q hk
      cases h
      exact ⟨k, q, hu, hk⟩
    · cases h
  · cases h

theorem checkKey_int {k : TypeId} {q q' : IntKind} {a : Int} (hk : E.und k = some (.int q)) (c : Bool) (w : World) : (Instr.checkKey c 10000 k (.int q' a)).run E.P w = .ok () w := by
  show (Instr.checkKey c (9999 + 1) k _).run E.P w = _
  unfold Instr.checkKey
  simp only [Sem.run_bind, und_run hk, Result.andThen_ok, Sem.run_pure]

theorem findKey_int {k : TypeId} {q q' : IntKind} {a : Int} (hk : E.und k = some (.int q)) {es : List MapEntry} {r : Option (Nat × Value)} (h : mfind q' a (es.map ekv) = some r) (w : World) :
    (Instr.findKey k (.int q' a) es).run E.P w = .ok r w := by
  unfold Instr.findKey
  simp only [Sem.run_bind, und_run hk, Result.andThen_ok]
  rw [(mfind_ok (q0 := q) 0 h).1]
  cases r <;> simp

theorem lookA_ok {ok b : Bool} {v : Value} {a : A} (h : lookA ok v b = some a) (x : Ctx) : VA x a (if ok then .tuple #[v, .bool b] else v) := by
  unfold lookA at h
  split at h
  · rename_i h1
    cases h
    cases ok
    · exact VA.sc x h1
    · refine .tup [sc v, sc (.bool b)] #[v, .bool b] (fun i => if i = 0 then v else .bool b) rfl (fun i a hi => ?_) (fun i a hi => ?_)
      all_goals
        rcases i with _ | _ | i
        · first | rfl | (cases hi; exact VA.sc x h1)
        · first | rfl | (cases hi; exact VA.sc x rfl)
        · simp at hi
  · cases h

theorem aLookup_ok (hR : Rel B x O H) {t : TypeId} {m k v : A} {um uk : Value} {ok : Bool} (hm : VA x m um) (hk : VA x k uk) (h : aLookup E H t m k ok = some v) :
    ∃ r, (Instr.lookup t um uk ok).run E.P x.w = .ok r x.w ∧ VA x v r := by
  unfold aLookup at h
  split at h
  · rename_i e q a id es he hs hmo
    obtain ⟨rfl, _⟩ := sv_eq hs hk
    obtain ⟨hb, b, ents, ck, h1, h2, rfl, h3, rfl⟩ := mapOf_ok hR hm hmo
    obtain ⟨kt, q0, hu, hkt⟩ := Env.ikey_und he
    have hg := get_map (P := E.P) h3
    unfold lookB at h
    split at h
    · rename_i i u hf
      refine ⟨_, ?_, lookA_ok h x⟩
      simp only [Instr.lookup, Sem.run_bind, und_run hu, Result.andThen_ok, hg, Sem.run_pure, checkKey_int hkt, findKey_int hkt hf]
    · rename_i hf
      split at h
      · rename_i z hz
        refine ⟨_, ?_, lookA_ok h x⟩
        have hz' : (zeroValue e).run E.P x.w = .ok z x.w := by
          unfold Env.zer at hz
          split at hz
          · rename_i s b' z' hi
            cases hz
            exact zero_run hi _
          · cases hz
        simp only [Instr.lookup, Sem.run_bind, und_run hu, Result.andThen_ok, hg, Sem.run_pure, checkKey_int hkt, findKey_int hkt hf, hz']
      · cases h
    · cases h
  · cases h

theorem aMakeMap_ok (hR : Rel B x O H) {r : Option A} {v : A} {H' : Heap} (t : TypeId) {r' : Option Value} (hr : r = none → r' = none) (h : aMakeMap H r = some (v, H')) :
    ∃ u w', (Instr.makeMap t r').run E.P x.w = .ok u w' ∧ Outs B x v H' u w' := by
  unfold aMakeMap at h
  split at h
  · cases h
    obtain rfl := hr rfl
    obtain ⟨y, O', e1, l1, f1, m1, L1, R1⟩ := hR.new (.mp []) (x.w.alloc (.map #[] 0)) (some (x.w.heap.size, 0)) (fun k => k = x.w.heap.size) rfl rfl rfl (by rw [alloc_size]; omega)
      (fun k hk => heap_old _ _ hk) (fun k hk => by subst hk; exact ⟨Nat.le_refl _, by rw [alloc_size]; omega⟩)
      (fun y hw hle hF hμ => ⟨_, #[], 0, hμ, rfl, by rw [hw]; exact heap_new _ _, rfl⟩)
    refine ⟨.map (some x.w.heap.size), x.w.alloc (.map #[] 0), by simp [Instr.makeMap], y, O', e1, l1, R1, .c _ _ (.ptr _ _ _ _ _ ⟨rfl, by rw [L1]; omega, fun s m hN => ?_⟩)⟩
    have : y.N H.length = some (0, 1) := by rw [R1.hN]; exact nOf_some (b := .mp []) (by simp)
    rw [this] at hN
    cases hN
    exact ⟨Nat.le_refl _, fun _ => ⟨_, _, m1, Nat.le_refl _, rfl⟩⟩
  · cases h

theorem modify_ekv (ents : Array MapEntry) (i : Nat) (k v : Value) : (ents.modify i fun e => { e with key := k, val := v }).toList.map ekv = (ents.toList.map ekv).set i (k, v) := by
  apply List.ext_getElem?
  intro j
  simp only [List.getElem?_map, List.getElem?_set, Array.getElem?_toList, Array.getElem?_modify]
  by_cases e : i = j
  · subst e
    simp only [if_pos rfl]
    by_cases hl : i < ents.size
    · simp [hl, ekv]
    · simp [hl]
  · simp [e]

theorem aMapUpdate_ok (hR : Rel B x O H) {t : TypeId} {m k v : A} {um uk uv : Value} {H' : Heap} (hm : VA x m um) (hk : VA x k uk) (hv : VA x v uv) (h : aMapUpdate E H t m k v = some H') :
    ∃ w', (Instr.mapUpdate t um uk uv).run E.P x.w = .ok () w' ∧ ∃ y O', y.w = w' ∧ x.Le y ∧ Rel B y O' H' := by
  unfold aMapUpdate at h
  split at h
  · rename_i e q a v' id es he hs hsv hmo
    obtain ⟨rfl, _⟩ := sv_eq hs hk
    obtain ⟨rfl, _⟩ := sv_eq hsv hv
    obtain ⟨hb, b, ents, ck, h1, h2, rfl, h3, hes⟩ := mapOf_ok hR hm hmo
    obtain ⟨kt, q0, hu, hkt⟩ := Env.ikey_und he
    have hg := get_map (P := E.P) h3
    have hblt : b < x.w.heap.size := (Array.getElem?_eq_some_iff.1 h3).1
    have fin : ∀ (es' : Array MapEntry) (ck' : Nat), H' = hP H id (some (.mp (es'.toList.map ekv))) →
        ∃ y O', y.w = setB x.w b (.map es' ck') ∧ x.Le y ∧ Rel B y O' H' := fun es' ck' e => by
      obtain ⟨y, O', e1, l1, f1, m1, R1⟩ := hR.upd hb (b' := .mp (es'.toList.map ekv)) (setB x.w b (.map es' ck')) (some (b, 0)) (O id) rfl rfl rfl (by rw [setB_size]; exact Nat.le_refl _)
        (fun k hk hno => setB_other (fun e => hno (e ▸ h2))) (fun k hk => ⟨.inl hk, by rw [setB_size]; exact (hR.own id k hk).1⟩)
        ⟨rfl, Nat.le_refl _, fun _ => ⟨h1.symm, fun g lo hg => by
          rw [h1] at hg
          cases hg
          unfold bsz
          rw [setB_same hblt, h3]⟩⟩
        (fun y hw hle hF hμ' => ⟨b, _, _, hμ', h2, by rw [hw]; exact setB_same hblt, rfl⟩)
      exact ⟨y, O', e1, l1, by rw [e, hP_eq]; exact R1⟩
    unfold putB at h
    split at h
    · rename_i es' hput
      cases h
      unfold mput at hput
      split at hput
      · rename_i hf
        cases hput
        rw [← hes] at hf
        refine ⟨_, ?_, fin (ents.push { key := .int q a, val := uv, born := ck }) (ck + 1) (by simp [← hes, ekv])⟩
        simp only [Instr.mapUpdate, Sem.run_bind, und_run hu, Result.andThen_ok, hg, checkKey_int hkt, findKey_int hkt hf]
        exact set_map _ h3
      · rename_i i u hf
        cases hput
        rw [← hes] at hf
        obtain ⟨e0, he0, hk0⟩ := (mfind_ok (q0 := q0) 0 hf).2 i u rfl
        refine ⟨_, ?_, fin (ents.modify i fun e => { e with key := .int q a, val := uv }) ck (by rw [modify_ekv, hes])⟩
        simp only [Instr.mapUpdate, Sem.run_bind, und_run hu, Result.andThen_ok, hg, checkKey_int hkt, findKey_int hkt hf]
        have he1 : ents[i]? = some e0 := by simpa using he0
        have hsb : Instr.sameBits 10000 (.int q a) (.int q a) = true := by simp [Instr.sameBits]
        simp only [he1, hk0, Option.map_some, Option.getD_some, Instr.keyThatStays, hsb, if_true, pure_bind]
        exact set_map _ h3
      · cases hput
    · cases h
  · cases h
end
end Go.Eng
namespace Go.Eng
open Go.RowKit
set_option linter.unusedVariables false
set_option linter.unusedSimpArgs false

def evs (E : Env) (T : List A) (ps : List (Nat × Operand)) : List (Nat × A) := ps.map fun p => (p.1, ev E T p.2)

def keep (H : Heap) : Option A → Option (A × Heap)
  | some v => some (v, H)
  | none => none

def put' : Option Heap → Option (A × Heap)
  | some H => some (.und, H)
  | none => none

def Env.isStruct (E : Env) (t : TypeId) : Bool := match E.und t with | some (.struct _) => true | _ => false

def aop (E : Env) (T : List A) (H : Heap) (o : Op) : Option (A × Heap) :=
  match o with
  | .alloc t => aAlloc E H t
  | .box t y => aBox H (ev E T y) (E.ty t)
  | .build t ps => if E.isStruct t = true then keep H (aBuild E t (evs E T ps.toList)) else none
  | .buildSlice t n ps => aBuildSlice E H t n (evs E T ps.toList)
  | .makeSlice t l c => aMake E H t (ev E T l) (ev E T c)
  | .store t a y => put' (aStore E H t (ev E T a) (ev E T y))
  | .call { callee := .builtin .append, args, argTypes } => match args.toList, argTypes.toList with
    | [s, y], [t, t2] => aApp E H t t2 (ev E T s) (ev E T y)
    | _, _ => none
  | .lookup t m k ok => keep H (aLookup E H t (ev E T m) (ev E T k) ok)
  | .mapUpdate t m k y => put' (aMapUpdate E H t (ev E T m) (ev E T k) (ev E T y))
  | .makeMap t r => aMakeMap H (r.map (ev E T))
  | o => keep H (aop1 E T H o)

theorem Outs.yld {E : Env} {T : List A} {H : Heap} {o : Oper} {v : A} {H' : Heap}
    (h : ∀ B x O (a : Act), Rel B x O H → TR x T a.tmps → (∀ y, VA x (ev E T y) (a.eval y)) → ∃ n v' w', (execOp a.eval o).run E.P x.w = .ok n w' ∧ (n = .value v' ∨ n = .skip ∧ v' = undef) ∧ Outs B x v H' v' w') : Yld E T H o v H' := by
  intro B x O a hB hR hT
  exact h B x O a hR hT (fun y => hT.eval (fun g => hR.glob hB g) y)

theorem evs_ok {E : Env} {x : Ctx} {T : List A} {a : Act} (he : ∀ y, VA x (ev E T y) (a.eval y)) (ps : List (Nat × Operand)) :
    (ps.map fun (i, y) => (i, a.eval y)).length = (evs E T ps).length ∧ ∀ (i : Nat) p, (evs E T ps)[i]? = some p → ∃ u, (ps.map fun (i, y) => (i, a.eval y))[i]? = some (p.1, u) ∧ VA x p.2 u := by
  refine ⟨by simp [evs], fun i p hp => ?_⟩
  simp only [evs, List.getElem?_map, Option.map_eq_some_iff] at hp
  obtain ⟨q, hq, rfl⟩ := hp
  exact ⟨a.eval q.2, by simp [hq], he q.2⟩

theorem aop_ok {E : Env} {T : List A} {H : Heap} {o : Oper} {v : A} {H' : Heap} (h : aop E T H o.op = some (v, H')) : Yld E T H o v H' := by
  have low : keep H (aop1 E T H o.op) = some (v, H') → Yld E T H o v H' := fun h => by
    unfold keep at h
    split at h
    · rename_i v' hv
      cases h
      exact aop1_ok hv
    · cases h
  unfold aop at h
  obtain ⟨dst, op, type, pos, after, guard⟩ := o
  simp only at h low
  split at h
  · rename_i t
    refine Outs.yld fun B x O a hR hT he => ?_
    obtain ⟨u, w', h1, h2⟩ := aAlloc_ok hR h
    exact ⟨_, u, w', by simp [execOp, h1], .inl rfl, h2⟩
  · rename_i t y
    refine Outs.yld fun B x O a hR hT he => ?_
    exact ⟨_, _, _, by simp [execOp, Instr.box, newVar, newRow], .inl rfl, aBox_ok hR (he y) h t (E.hty t)⟩
  · rename_i t ps
    split at h
    · rename_i hs
      unfold keep at h
      split at h
      · rename_i v' hv
        cases h
        refine Yld.same fun B x O a hR hT he => ?_
        obtain ⟨e1, e2⟩ := evs_ok he ps.toList
        obtain ⟨u, h1, h2⟩ := aBuild_ok e1 e2 hv (by unfold Env.isStruct at hs; split at hs; exact ⟨_, by assumption⟩; cases hs) x.w
        refine ⟨u, ?_, h2⟩
        have : (ps.map fun (i, y) => (i, a.eval y)) = (ps.toList.map fun (i, y) => (i, a.eval y)).toArray := by apply Array.ext'; simp
        simp only [execOp, this, Sem.run_bind, h1, Result.andThen_ok, Sem.run_pure]
      · cases h
    · cases h
  · rename_i t n ps
    refine Outs.yld fun B x O a hR hT he => ?_
    obtain ⟨e1, e2⟩ := evs_ok he ps.toList
    obtain ⟨u, w', h1, h2⟩ := aBuildSlice_ok hR e1 e2 h
    have : (ps.map fun (i, y) => (i, a.eval y)) = (ps.toList.map fun (i, y) => (i, a.eval y)).toArray := by apply Array.ext'; simp
    exact ⟨_, u, w', by simp only [execOp, this, Sem.run_bind, h1, Result.andThen_ok, Sem.run_pure], .inl rfl, h2⟩
  · rename_i t l c
    refine Outs.yld fun B x O a hR hT he => ?_
    obtain ⟨u, w', h1, h2⟩ := aMake_ok hR (he l) (he c) h
    exact ⟨_, u, w', by simp [execOp, h1], .inl rfl, h2⟩
  · rename_i t p y
    refine Outs.yld fun B x O a hR hT he => ?_
    unfold put' at h
    split at h
    · rename_i H1 hs
      cases h
      obtain ⟨w', h1, y', O', e1, l1, R1⟩ := aStore_ok hR (he p) (he y) hs
      exact ⟨_, undef, w', by simp [execOp, h1], .inr ⟨rfl, rfl⟩, y', O', e1, l1, R1, .und⟩
    · cases h
  · rename_i args ats
    split at h
    · rename_i s y t t2 h1 h2
      refine Outs.yld fun B x O a hR hT he => ?_
      have ea : args = #[s, y] := by apply Array.ext'; simpa using h1
      have et : ats = #[t, t2] := by apply Array.ext'; simpa using h2
      subst ea; subst et
      obtain ⟨u, w', h1, h2⟩ := aApp_ok hR (ty := type) (he s) (he y) h
      exact ⟨_, u, w', by simp [execOp, resolve, invoke, builtin, h1], .inl rfl, h2⟩
    · cases h
  · rename_i t m k ok
    unfold keep at h
    split at h
    · rename_i v' hv
      cases h
      refine Yld.same fun B x O a hR hT he => ?_
      obtain ⟨u, h1, h2⟩ := aLookup_ok hR (he m) (he k) hv
      exact ⟨u, by simp [execOp, h1], h2⟩
    · cases h
  · rename_i t m k y
    refine Outs.yld fun B x O a hR hT he => ?_
    unfold put' at h
    split at h
    · rename_i H1 hs
      cases h
      obtain ⟨w', h1, y', O', e1, l1, R1⟩ := aMapUpdate_ok hR (he m) (he k) (he y) hs
      exact ⟨_, undef, w', by simp [execOp, h1], .inr ⟨rfl, rfl⟩, y', O', e1, l1, R1, .und⟩
    · cases h
  · rename_i t r
    refine Outs.yld fun B x O a hR hT he => ?_
    obtain ⟨u, w', h1, h2⟩ := aMakeMap_ok (E := E) hR t (r' := r.map a.eval) (by cases r <;> simp) h
    exact ⟨_, u, w', by simp [execOp, h1], .inl rfl, h2⟩
  · exact low h

end Go.Eng
namespace Go.Eng
open Go.RowKit
set_option linter.unusedVariables false
set_option linter.unusedSimpArgs false

def SR (B : Base) (T : List A) (H : Heap) (a : Act) (w : World) : Prop := a.defers = [] ∧ SRel B T H a.tmps w

def OpW (E : Env) (T : List A) (H : Heap) (o : Oper) (v : A) (H' : Heap) : Prop :=
  ∀ (B : Base) (a : Act) (w : World) (K : Act → World → Prop) (Q : Exit → Act → World → Prop), B.ok E → SR B T H a w → (∀ a' w', SR B (putT T o.dst v) H' a' w' → K a' w') → o.wp E.P a w K Q

theorem Yld.w {E : Env} {T : List A} {H : Heap} {o : Oper} {v : A} {H' : Heap} (h : Yld E T H o v H') : OpW E T H o v H' := by
  intro B a w K Q hB hs hk
  obtain ⟨hd, x, O, rfl, hR, hT⟩ := hs
  obtain ⟨n, v', w', h1, h2, y, O', rfl, hle, hR', hv⟩ := h B x O a hB hR hT
  have hk' : K (a.put o.dst v') y.w := hk _ _ ⟨by cases hdst : o.dst <;> simp [Act.put, hd], y, O', rfl, hR', (hT.mono hle).put o.dst hv⟩
  unfold Oper.wp
  rw [h1]
  rcases h2 with rfl | ⟨rfl, rfl⟩
  · exact hk'
  · exact hk'

def isCall : Op → Bool
  | .call { callee := .value _, .. } => true
  | _ => false

def CallK (E : Env) (T : List A) (H : Heap) (o : Oper) (K : A → Heap → Prop) : Prop := ∃ v H', OpW E T H o v H' ∧ K v H'

def dstOf : List (Option Nat) → Nat → Option Nat
  | [], _ => none
  | d :: _, 0 => d
  | _ :: l, j + 1 => dstOf l j

def dsts : List Oper → List (Option Nat)
  | [] => []
  | o :: l => o.dst :: dsts l

def eqW : Bool → Bool → Bool
  | b, true => b
  | b, false => !b

theorem eqW_eq (b w : Bool) : eqW b w = (b == w) := by cases b <;> cases w <;> rfl

def truth : A → Bool → Option Bool
  | .c (.d (.sc (.bool b))), w => some (eqW b w)
  | .und, _ => some false
  | _, _ => none

def wantA (ds : List (Option Nat)) (T : List A) : Option (Nat × Bool) → Option Bool
  | none => some true
  | some (j, w) => match dstOf ds j with
    | some d => truth (gT T d) w
    | none => none

def GdP (w : Option Bool) (run skip : Prop) : Prop := match w with | some b => (b = true → run) ∧ (b = false → skip) | none => False
def OrP : Bool → Prop → Prop → Prop
  | true, x, _ => x
  | false, _, y => y
def ResP (r : Option (A × Heap)) (K : A → Heap → Prop) : Prop := match r with | some (v, H) => K v H | none => False

def AOps (E : Env) (ds : List (Option Nat)) : List Oper → List A → Heap → (List A → Heap → Prop) → Prop
  | [], T, H, Q => Q T H
  | o :: l, T, H, Q => GdP (wantA ds T o.guard)
      (OrP (isCall o.op) (CallK E T H o fun v H' => AOps E ds l (putT T o.dst v) H' Q) (ResP (aop E T H o.op) fun v H' => AOps E ds l (putT T o.dst v) H' Q))
      (AOps E ds l (putT T o.dst .und) H Q)

def Res (r : Option (A × Heap)) (E : Env) (ds : List (Option Nat)) (d : Option Nat) (l : List Oper) (T : List A) (Q : List A → Heap → Prop) : Prop := ResP r fun v H' => AOps E ds l (putT T d v) H' Q
def St (b : Bool) (E : Env) (ds : List (Option Nat)) (o : Oper) (l : List Oper) (T : List A) (H : Heap) (Q : List A → Heap → Prop) : Prop :=
  OrP b (CallK E T H o fun v H' => AOps E ds l (putT T o.dst v) H' Q) (ResP (aop E T H o.op) fun v H' => AOps E ds l (putT T o.dst v) H' Q)
def Gd (w : Option Bool) (E : Env) (ds : List (Option Nat)) (o : Oper) (l : List Oper) (T : List A) (H : Heap) (Q : List A → Heap → Prop) : Prop :=
  GdP w (St (isCall o.op) E ds o l T H Q) (AOps E ds l (putT T o.dst .und) H Q)

theorem dstOf_eq : ∀ (ops : List Oper) (j : Nat), dstOf (dsts ops) j = (ops[j]?).bind (·.dst)
  | [], _ => by simp [dstOf, dsts]
  | o :: _, 0 => by simp [dstOf, dsts]
  | _ :: l, j + 1 => by simp [dstOf, dsts, dstOf_eq l j]

theorem wantA_ok {x : Ctx} {T : List A} {a : Act} {ops : Array Oper} {o : Oper} {b : Bool} (hT : TR x T a.tmps) (h : wantA (dsts ops.toList) T o.guard = some b) : Region.wanted o (yielded ops a.tmps) = b := by
  unfold wantA at h
  unfold Region.wanted
  split at h
  · rename_i hg; rw [hg]; cases h; rfl
  · rename_i j w hg
    rw [hg]
    split at h
    · rename_i d hd
      rw [dstOf_eq, Array.getElem?_toList] at hd
      show (yielded ops a.tmps j == some w) = b
      unfold yielded
      rw [hd]
      have hget := hT.get d
      simp only [Option.bind_some]
      unfold truth at h
      split at h
      · rename_i bb heq
        cases h
        rw [heq] at hget
        have hv : a.tmps.getD d undef = .bool bb := by
          generalize a.tmps.getD d undef = u at hget
          cases hget with | c _ _ hh => cases hh with | d _ _ hh => cases hh with | sc _ _ => rfl
        have hlt : a.tmps[d]? = some (.bool bb) := by
          rw [Array.getD_eq_getD_getElem?] at hv
          cases hq : a.tmps[d]? with
          | none => rw [hq] at hv; cases hv
          | some u => rw [hq] at hv; simp at hv; rw [hv]
        rw [hlt]
        simp [eqW_eq]
      · rename_i heq
        cases h
        rw [heq] at hget
        have hv : a.tmps.getD d undef = undef := by
          generalize a.tmps.getD d undef = u at hget
          cases hget; rfl
        rw [Array.getD_eq_getD_getElem?] at hv
        cases hq : a.tmps[d]? with
        | none => rfl
        | some u => rw [hq] at hv; simp at hv; rw [hv]; rfl
      · cases h
    · cases h

theorem AOps.ok {E : Env} {B : Base} {ops : Array Oper} {Q : List A → Heap → Prop} {Q' : Exit → Act → World → Prop} (hB : B.ok E)
    (hQ : ∀ T H a w, Q T H → SR B T H a w → Q' .normal a w) : ∀ (n k : Nat) (T : List A) (H : Heap) (a : Act) (w : World), n + k = ops.size →
    AOps E (dsts ops.toList) (ops.toList.drop k) T H Q → SR B T H a w → wpOps E.P ops Q' (List.range' k n) a w
  | 0, k, T, H, a, w, hn, h, hs => by
    rw [List.drop_eq_nil_of_le (by simp; omega)] at h
    exact hQ T H a w h hs
  | n + 1, k, T, H, a, w, hn, h, hs => by
    have hlt : k < ops.toList.length := by simp; omega
    rw [List.drop_eq_getElem_cons hlt] at h
    have hget : ops[k]? = some ops.toList[k] := by simp at hlt; simp [hlt]
    obtain ⟨hd, x, O, rfl, hR, hT⟩ := hs
    simp only [List.range'_succ, wpOps, hget]
    simp only [AOps] at h
    cases hb : wantA (dsts ops.toList) T (ops.toList[k]).guard with
    | some b =>
      rw [hb] at h
      simp only [GdP] at h
      have hw := wantA_ok hT hb
      rw [hw]
      cases b
      · have h := h.2 rfl
        simp only [Bool.false_eq_true, if_false]
        exact AOps.ok hB hQ n (k + 1) _ H _ _ (by omega) h ⟨by cases hdst : (ops.toList[k]).dst <;> simp [Act.put, hd], x, O, rfl, hR, hT.put _ .und⟩
      · have h := h.1 rfl
        simp only [if_true]
        left
        have key : ∃ v H', OpW E T H (ops.toList[k]) v H' ∧ AOps E (dsts ops.toList) (ops.toList.drop (k + 1)) (putT T (ops.toList[k]).dst v) H' Q := by
          cases hc : isCall (ops.toList[k]).op with
          | true => rw [hc] at h; exact h
          | false =>
            rw [hc] at h
            simp only [OrP] at h
            cases hv : aop E T H (ops.toList[k]).op with
            | some r =>
              rw [hv] at h
              simp only [ResP] at h
              exact ⟨r.1, r.2, (aop_ok hv).w, h⟩
            | none => rw [hv] at h; exact h.elim
        obtain ⟨v, H', hop, hrest⟩ := key
        exact hop B a x.w _ _ hB ⟨hd, x, O, rfl, hR, hT⟩ (fun a' w' hs' => AOps.ok hB hQ n (k + 1) _ H' a' w' (by omega) hrest hs')
    | none => rw [hb] at h; exact h.elim

def AWP (E : Env) (c : Code) (T : List A) (H : Heap) (Q : Exit → List A → Heap → Prop) (m : Nat) : Prop :=
  ∀ (B : Base) (a : Act) (w : World), B.ok E → B.x.L = m → SR B T H a w → c.wp E.P (fun e a' w' => ∃ T' H', Q e T' H' ∧ SR B T' H' a' w') a w

section
variable {E : Env} {T : List A} {H : Heap} {Q : Exit → List A → Heap → Prop} {m : Nat}

theorem awp_region {id : Nat} {ops : Array Oper} (h : AOps E (dsts ops.toList) ops.toList T H (Q .normal)) : AWP E (.region id ops false) T H Q m := by
  intro B a w hB _ hs
  refine wp_region ?_
  rw [List.range_eq_range']
  exact AOps.ok hB (fun T H a w hq hs => ⟨T, H, hq, hs⟩) ops.size 0 T H a w (by simp) (by simpa using h) hs

theorem awp_skip (h : Q .normal T H) : AWP E .skip T H Q m := fun B a w hB _ hs => wp_skip ⟨T, H, h, hs⟩
theorem awp_ret (h : Q .ret T H) : AWP E .ret T H Q m := fun B a w hB _ hs => wp_ret ⟨T, H, h, hs⟩
theorem awp_exit {id : Nat} (h : Q (.exit id) T H) : AWP E (.exit id) T H Q m := fun B a w hB _ hs => wp_exit ⟨T, H, h, hs⟩

def Sq (next : List A → Heap → Prop) (Q : Exit → List A → Heap → Prop) : Exit → List A → Heap → Prop
  | .normal, T, H => next T H
  | e, T, H => Q e T H

theorem awp_seq {x y : Code} (h : AWP E x T H (Sq (fun T' H' => AWP E y T' H' Q m) Q) m) : AWP E (.seq x y) T H Q m := by
  intro B a w hB hm hs
  refine wp_seq (wp_mono (h B a w hB hm hs) ?_)
  rintro e a' w' ⟨T', H', hq, hs'⟩
  cases e with
  | normal => exact hq B a' w' hB hm hs'
  | _ => exact ⟨T', H', hq, hs'⟩

def Bk (id : Nat) (Q : Exit → List A → Heap → Prop) : Exit → List A → Heap → Prop
  | .exit i, T, H => if i = id then Q .normal T H else Q (.exit i) T H
  | e, T, H => Q e T H

theorem awp_block {id : Nat} {c : Code} (h : AWP E c T H (Bk id Q) m) : AWP E (.block id c) T H Q m := by
  intro B a w hB hm hs
  refine wp_block (wp_mono (h B a w hB hm hs) ?_)
  rintro e a' w' ⟨T', H', hq, hs'⟩
  cases e with
  | exit i =>
    simp only [Bk] at hq
    simp only [Exit.inBlock]
    split
    · rename_i e; rw [if_pos e] at hq; exact ⟨T', H', hq, hs'⟩
    · rename_i e; rw [if_neg e] at hq; exact ⟨T', H', hq, hs'⟩
  | _ => exact ⟨T', H', hq, hs'⟩

theorem awp_cond {c : Operand} {x y : Code} {b : Bool} (hc : ofBool (ev E T c) = some b) (h1 : b = true → AWP E x T H Q m) (h2 : b = false → AWP E y T H Q m) : AWP E (.cond c x y) T H Q m := by
  intro B a w hB hm hs
  obtain ⟨hd, x', O, rfl, hR, hT⟩ := hs
  have hv := ofBool_eq hc (hT.eval (fun g => hR.glob hB g) c)
  refine wp_cond hv ?_
  cases b
  · exact h2 rfl B a x'.w hB hm ⟨hd, x', O, rfl, hR, hT⟩
  · exact h1 rfl B a x'.w hB hm ⟨hd, x', O, rfl, hR, hT⟩

theorem awp_mono {c : Code} {Q' : Exit → List A → Heap → Prop} (h : AWP E c T H Q m) (hq : ∀ e T H, Q e T H → Q' e T H) : AWP E c T H Q' m :=
  fun B a w hB hm hs => wp_mono (h B a w hB hm hs) (fun e a' w' ⟨T', H', h1, h2⟩ => ⟨T', H', hq _ _ _ h1, h2⟩)

def Wk (m : Nat) (T : List A) (H : Heap) (T' : List A) (H' : Heap) : Prop := ∀ (B : Base) (a : Act) (w : World), B.x.L = m → SR B T H a w → SR B T' H' a w

theorem awp_wk {c : Code} {T' : List A} {H' : Heap} (hw : Wk m T H T' H') (h : AWP E c T' H' Q m) : AWP E c T H Q m :=
  fun B a w hB hm hs => h B a w hB hm (hw B a w hm hs)

theorem awp_loop {α : Type} {c : Code} (I : α → Prop) (S : α → List A × Heap) (μ : α → Nat) (i0 : α) (h0 : I i0) (hs0 : Wk m T H (S i0).1 (S i0).2)
    (round : ∀ i, I i → AWP E c (S i).1 (S i).2 (Sq (fun T' H' => ∃ j, I j ∧ μ j < μ i ∧ Wk m T' H' (S j).1 (S j).2) Q) m) : AWP E (.loop c) T H Q m := by
  intro B a w hB hm hs
  refine wp_loop_ghost (fun n a' w' => ∃ i, μ i = n ∧ I i ∧ SR B (S i).1 (S i).2 a' w') (μ i0) ⟨i0, rfl, h0, hs0 B a w hm hs⟩ ?_
  rintro n a w ⟨i, rfl, hi, hsi⟩
  refine wp_mono (round i hi B a w hB hm hsi) ?_
  rintro e a' w' ⟨T', H', hq, hs'⟩
  cases e with
  | normal =>
    obtain ⟨j, hj, hlt, hw⟩ := hq
    exact ⟨μ j, hlt, j, rfl, hj, hw B a' w' hm hs'⟩
  | _ => exact ⟨T', H', hq, hs'⟩

end
end Go.Eng
namespace Go.Eng
open Go.RowKit
set_option linter.unusedVariables false
set_option linter.unusedSimpArgs false


def LeA : A → A → Prop
  | _, .any => True
  | a, b => a = b

def LeT : List A → List A → Prop
  | [], [] => True
  | a :: l, b :: l' => LeA a b ∧ LeT l l'
  | _, _ => False

def LeB : Option Blk → Option Blk → Prop
  | _, none => True
  | a, b => a = b

def LeH : Heap → Heap → Prop
  | [], [] => True
  | a :: l, b :: l' => LeB a b ∧ LeH l l'
  | _, _ => False

theorem LeA.ok {x : Ctx} {a b : A} {v : Value} (h : LeA a b) (hv : VA x a v) : VA x b v := by
  unfold LeA at h
  split at h
  · exact .any v
  · rw [← h]; exact hv

theorem LeT.ok : ∀ {T T' : List A}, LeT T T' → T.length = T'.length ∧ ∀ (i : Nat) b, T'[i]? = some b → ∃ a, T[i]? = some a ∧ LeA a b
  | [], [], _ => ⟨rfl, fun i b h => by simp at h⟩
  | [], _ :: _, h => h.elim
  | _ :: _, [], h => h.elim
  | a :: l, b :: l', h => by
    obtain ⟨h1, h2⟩ := LeT.ok h.2
    refine ⟨by simp [h1], fun i c hc => ?_⟩
    cases i with
    | zero => cases hc; exact ⟨a, rfl, h.1⟩
    | succ i => exact h2 i c (by simpa using hc)

theorem LeH.ok : ∀ {H H' : Heap}, LeH H H' → H.length = H'.length ∧ ∀ (i : Nat) b, H'[i]? = some (some b) → H[i]? = some (some b)
  | [], [], _ => ⟨rfl, fun i b h => by simp at h⟩
  | [], _ :: _, h => h.elim
  | _ :: _, [], h => h.elim
  | a :: l, b :: l', h => by
    obtain ⟨h1, h2⟩ := LeH.ok h.2
    refine ⟨by simp [h1], fun i c hc => ?_⟩
    cases i with
    | zero =>
      cases hc
      have := h.1
      unfold LeB at this
      split at this
      · simp_all
      · rw [this]; rfl
    | succ i => exact h2 i c (by simpa using hc)

theorem Rel.sub {B : Base} {x : Ctx} {O : Nat → Nat → Prop} {H H' : Heap} (hR : Rel B x O H) (hl : H.length = H'.length) (h : ∀ (i : Nat) b, H'[i]? = some (some b) → H[i]? = some (some b)) :
    ∃ y, y.w = x.w ∧ x.Le y ∧ Rel B y O H' := by
  let y : Ctx := { w := x.w, F := x.F, μ := x.μ, N := nOf H', L := x.L }
  have hN : ∀ id p, nOf H' id = some p → x.N id = some p := fun id p hp => by
    obtain ⟨b, hb, hn⟩ := nOf_inv hp
    rw [hR.hN, nOf_some (h id b hb), hn]
  have hle : x.Le y := ⟨fun k hk => ⟨hk, rfl⟩, Nat.le_refl _, Nat.le_refl _, fun id _ s m hm => ⟨m, hN _ _ hm, Nat.le_refl _, fun _ => ⟨rfl, fun _ _ _ => rfl⟩⟩⟩
  exact ⟨y, rfl, hle, ⟨by show x.L = _; rw [← hl]; exact hR.hL, fun _ => rfl, hR.le.trans hle, hR.os, hR.tape, hR.output, hR.keep, hR.own, hR.fr, hR.disj, hR.nof, fun id b hb => (hR.blk id b (h id b hb)).mono hle rfl (fun _ h => h) (fun _ _ => rfl)⟩⟩

theorem wk_le {m : Nat} {T T' : List A} {H H' : Heap} (h1 : LeT T T') (h2 : LeH H H') : Wk m T H T' H' := by
  intro B a w hm hs
  obtain ⟨hd, x, O, rfl, hR, hT⟩ := hs
  obtain ⟨q1, q2⟩ := h1.ok
  obtain ⟨q3, q4⟩ := h2.ok
  obtain ⟨y, e1, l1, R1⟩ := hR.sub q3 q4
  refine ⟨hd, y, O, e1, R1, by rw [hT.1, q1], fun i b hb => ?_⟩
  obtain ⟨a', ha, hle⟩ := q2 i b hb
  obtain ⟨u, hu, hv⟩ := hT.2 i a' ha
  exact ⟨u, hu, hle.ok (hv.mono l1)⟩

theorem Wk.trans {m : Nat} {T T' T'' : List A} {H H' H'' : Heap} (h : Wk m T H T' H') (k : Wk m T' H' T'' H'') : Wk m T H T'' H'' :=
  fun B a w hm hs => k B a w hm (h B a w hm hs)


mutual
def okC (k : Nat) : C → Bool
  | .own id _ _ _ => decide (id < k)
  | .ptr id _ _ _ => decide (id < k)
  | .clo _ cs => okCs k cs
  | _ => true
def okCs (k : Nat) : List C → Bool
  | [] => true
  | c :: l => okC k c && okCs k l
end

def cutCell (k : Nat) (c : C) : C := if okC k c = true then c else .any

def cutCells (k : Nat) : List C → List C
  | [] => []
  | c :: l => cutCell k c :: cutCells k l

def cutA (k : Nat) : A → A
  | .c c => .c (cutCell k c)
  | .agg cs => .agg (cutCells k cs)
  | .tup _ => .any
  | .und => .und
  | .any => .any

def cutT (k : Nat) : List A → List A
  | [] => []
  | a :: l => cutA k a :: cutT k l

def cutB (k : Nat) : Option Blk → Option Blk
  | some (.box cs ty) => some (.box (cutCells k cs) ty)
  | b => b

def cutH (k : Nat) : Nat → Heap → Heap
  | 0, _ => []
  | n + 1, b :: l => cutB k b :: cutH k n l
  | _ + 1, [] => []

theorem okCs_mem {k : Nat} : ∀ {l : List C}, okCs k l = true → ∀ c ∈ l, okC k c = true
  | [], _, c, h => by simp at h
  | a :: l, h, c, hc => by
    simp only [okCs, Bool.and_eq_true] at h
    rcases List.mem_cons.1 hc with rfl | hc
    · exact h.1
    · exact okCs_mem h.2 c hc

theorem VR.cut {x y : Ctx} {k : Nat} (hw : y.w = x.w) (hF : y.F = x.F) (hμ : y.μ = x.μ) (hL : y.L = k) (hN : ∀ id, id < k → y.N id = x.N id) {c : C} {v : Value} (h : VR x c v) : okC k c = true → VR y c v := by
  induction h with
  | d d v hd => intro _; exact .d d v (by rw [hw, hF]; exact hd)
  | nils => intro _; exact .nils
  | own id off len n v h =>
    intro hk
    simp only [okC, decide_eq_true_eq] at hk
    refine .own _ _ _ _ _ ⟨h.1, by rw [hL]; exact hk, fun s m hm => ?_⟩
    rw [hN id hk] at hm
    have := h.2.2 s m hm
    rw [hμ, hw]
    exact this
  | ptr id j off n v h =>
    intro hk
    simp only [okC, decide_eq_true_eq] at hk
    refine .ptr _ _ _ _ _ ⟨h.1, by rw [hL]; exact hk, fun s m hm => ?_⟩
    rw [hN id hk] at hm
    have := h.2.2 s m hm
    rw [hμ]
    exact this
  | pf cells off b o h1 h2 => intro _; exact .pf cells off b o (by rw [hF]; exact h1) (by rw [hw, hF]; exact h2)
  | pa rows b o s h1 h2 h3 => intro _; exact .pa rows b o s (by rw [hF]; exact h1) h2 (by rw [hw, hF]; exact h3)
  | clo fn caps vs u hl hu hv ih =>
    intro hk
    simp only [okC] at hk
    exact .clo fn caps vs u hl hu (fun i c hc => ih i c hc (okCs_mem hk c (List.mem_of_getElem? hc)))
  | any v h => intro _; exact .any v h

theorem VR.cutCell {x y : Ctx} {k : Nat} (hw : y.w = x.w) (hF : y.F = x.F) (hμ : y.μ = x.μ) (hL : y.L = k) (hN : ∀ id, id < k → y.N id = x.N id) {c : C} {v : Value} (h : VR x c v) : VR y (Eng.cutCell k c) v := by
  unfold Eng.cutCell
  split
  · rename_i hk; exact h.cut hw hF hμ hL hN hk
  · exact .any v h.one

theorem cutCells_eq (k : Nat) : ∀ l : List C, cutCells k l = l.map (cutCell k)
  | [] => rfl
  | c :: l => by simp [cutCells, cutCells_eq k l]

theorem cutT_eq (k : Nat) : ∀ l : List A, cutT k l = l.map (cutA k)
  | [] => rfl
  | c :: l => by simp [cutT, cutT_eq k l]

theorem cutH_get (k : Nat) : ∀ (n : Nat) (H : Heap), n ≤ H.length → (cutH k n H).length = n ∧ ∀ i, (cutH k n H)[i]? = if i < n then (H[i]?).map (cutB k) else none
  | 0, H, _ => ⟨rfl, fun i => by simp [cutH]⟩
  | n + 1, [], h => by simp at h
  | n + 1, b :: l, h => by
    obtain ⟨h1, h2⟩ := cutH_get k n l (by simpa using h)
    refine ⟨by simp [cutH, h1], fun i => ?_⟩
    cases i with
    | zero => simp [cutH]
    | succ i => simp [cutH, h2 i]

theorem wk_cut {m k : Nat} {T : List A} {H : Heap} (hmk : m ≤ k) (hk : k ≤ H.length) : Wk m T H (cutT k T) (cutH k k H) := by
  intro B a w hm hs
  obtain ⟨hd, x, O, rfl, hR, hT⟩ := hs
  obtain ⟨q1, q2⟩ := cutH_get k k H hk
  let y : Ctx := { w := x.w, F := x.F, μ := x.μ, N := nOf (cutH k k H), L := k }
  have hNk : ∀ id, id < k → y.N id = x.N id := fun id hid => by
    rw [hR.hN]
    show nOf (cutH k k H) id = _
    unfold nOf
    rw [q2 id, if_pos hid]
    cases hH : H[id]? with
    | none => rfl
    | some b =>
      cases b with
      | none => rfl
      | some b => cases b <;> rfl
  have hNge : ∀ id, k ≤ id → y.N id = none := fun id hid => by
    show nOf (cutH k k H) id = none
    unfold nOf
    rw [q2 id, if_neg (by omega)]
  have hc : ∀ {c : C} {v : Value}, VR x c v → VR y (cutCell k c) v := fun h => VR.cutCell (x := x) (y := y) (k := k) rfl rfl rfl rfl hNk h
  have hcs : ∀ {cs : List C} {vs : Array Value}, CsR x cs vs → CsR y (cutCells k cs) vs := fun h => by
    refine ⟨by rw [cutCells_eq]; simpa using h.1, fun i c hi => ?_⟩
    rw [cutCells_eq, List.getElem?_map, Option.map_eq_some_iff] at hi
    obtain ⟨c', hc', rfl⟩ := hi
    obtain ⟨u, hu, hv⟩ := h.2 i c' hc'
    exact ⟨u, hu, hc hv⟩
  refine ⟨hd, y, O, rfl, ⟨by show k = _; rw [q1], fun _ => rfl, ?_, hR.os, hR.tape, hR.output, hR.keep, hR.own, hR.fr, hR.disj, hR.nof, fun id b hb => ?_⟩, ?_⟩
  · refine ⟨hR.le.F, hR.le.size, by show B.x.L ≤ k; omega, fun id hid s n hn => ?_⟩
    have hid' : id < k := by omega
    rw [hNk id hid'] at hn
    exact hR.le.N id hid s n hn
  · rw [q2 id] at hb
    split at hb
    · rename_i hid
      rw [Option.map_eq_some_iff] at hb
      obtain ⟨b', hb', he⟩ := hb
      cases b' with
      | none => simp [cutB] at he
      | some b' =>
        have hB := hR.blk id b' hb'
        cases b' with
        | box cs =>
          simp only [cutB, Option.some.injEq] at he
          subst he
          obtain ⟨g, vs, t, h1, h2, h3, h4⟩ := hB
          exact ⟨g, vs, t, h1, h2, h3, hcs h4⟩
        | rows s rs =>
          simp only [cutB, Option.some.injEq] at he
          subst he
          exact hB
        | mp es =>
          simp only [cutB, Option.some.injEq] at he
          subst he
          exact hB
    · cases hb
  · rw [cutT_eq]
    refine ⟨by simpa using hT.1, fun i b hb => ?_⟩
    rw [List.getElem?_map, Option.map_eq_some_iff] at hb
    obtain ⟨a', ha, rfl⟩ := hb
    obtain ⟨u, hu, hv⟩ := hT.2 i a' ha
    refine ⟨u, hu, ?_⟩
    cases hv with
    | c c v h => exact .c _ _ (hc h)
    | agg cs vs h => exact .agg _ _ (hcs h)
    | tup => exact .any _
    | und => exact .und
    | any => exact .any _


def fzA (H : Heap) : A → Option (A × Heap)
  | .c c => match toD H c with | some (d, H') => some (.c (.d d), H') | none => none
  | _ => none

theorem wk_fz {m i : Nat} {T : List A} {H H' : Heap} {a' : A} (h : fzA H (gT T i) = some (a', H')) : Wk m T H (pT T i a') H' := by
  intro B a w hm hs
  obtain ⟨hd, x, O, rfl, hR, hT⟩ := hs
  unfold fzA at h
  split at h
  · rename_i c hc
    split at h
    · rename_i d H1 h1
      cases h
      have hv := VA.inv (hc ▸ hT.get i)
      obtain ⟨y, O', e1, l1, R1, D1⟩ := toD_ok hR hv h1
      refine ⟨hd, y, O', e1, R1, by rw [pT_length]; exact hT.1, fun j b hb => ?_⟩
      rw [pT_eq, List.getElem?_set] at hb
      split at hb
      · rename_i e
        split at hb
        · rename_i hlt
          cases hb
          subst e
          have hlt' : i < a.tmps.size := by rw [hT.1]; exact hlt
          refine ⟨a.tmps.getD i undef, ?_, .c _ _ (.d _ _ D1)⟩
          simp [Array.getD_eq_getD_getElem?, hlt']
        · cases hb
      · obtain ⟨u, hu, hv⟩ := hT.2 j b hb
        exact ⟨u, hu, hv.mono l1⟩
    · cases h
  · cases h


theorem wk_virt {m i s : Nat} {T : List A} {H : Heap} (ty : Option TypeId) (hs : 0 < s) (h : gT T i = .c .nils) : Wk m T H (pT T i (.c (.own H.length 0 0 0))) (H ++ [some (.rows s [] ty)]) := by
  intro B a w hm hsr
  obtain ⟨hd, x, O, rfl, hR, hT⟩ := hsr
  have hv := VA.inv (h ▸ hT.get i)
  generalize hu0 : a.tmps.getD i undef = u0 at hv
  cases hv with | nils =>
  obtain ⟨z', O', e1, l1, f1, m1, L1, R1⟩ := hR.new (.rows s [] ty) x.w none (fun _ => False) rfl rfl rfl (Nat.le_refl _) (fun _ _ => rfl) (fun k hk => hk.elim)
    (fun y hw hle hF hμ => ⟨hs, by simp, .inl ⟨hμ, rfl⟩⟩)
  refine ⟨hd, z', O', e1, R1, by rw [pT_length]; exact hT.1, fun j b hb => ?_⟩
  rw [pT_eq, List.getElem?_set] at hb
  split at hb
  · rename_i e
    split at hb
    · rename_i hlt
      cases hb
      subst e
      have hlt' : i < a.tmps.size := by rw [hT.1]; exact hlt
      refine ⟨.slice none 0 0, by rw [← hu0]; simp [Array.getD_eq_getD_getElem?, hlt'], .c _ _ (.own _ _ _ _ _ ⟨rfl, by rw [L1]; omega, fun s' m' hN => ?_⟩)⟩
      have : z'.N H.length = some (s, 0) := by rw [R1.hN]; exact nOf_some (b := .rows s [] ty) (by simp)
      rw [this] at hN
      cases hN
      exact ⟨Nat.le_refl _, fun _ => by rw [m1]; simp⟩
    · cases hb
  · obtain ⟨u, hu, hv⟩ := hT.2 j b hb
    exact ⟨u, hu, hv.mono l1⟩

end Go.Eng
namespace Go.Eng
open Go.RowKit
set_option linter.unusedVariables false
set_option linter.unusedSimpArgs false

def fnOk (P : Program) (f : FuncId) : Bool := match P.funcs[f]? with | some fn => fn.body.isSome && fn.name != "runtime.NumGoroutine" | none => false

def AFn (E : Env) (f : FuncId) (args : List A) (H : Heap) (r : A) (H' : Heap) : Prop :=
  fnOk E.P f = true ∧ ∀ (B : Base) (vs : Array Value) (w : World), B.ok E → B.x.L = H.length → SRel B args H vs w → Calls E.P f vs w (fun e w' => ∃ v, e = .returned v ∧ SRel B [r] H' #[v] w')

def resA (E : Env) (T : List A) (H : Heap) : List ResultVar → Option (List A)
  | [] => some []
  | .tmp t :: l => match resA E T H l with | some r => some (gT T t :: r) | none => none
  | .cell p t :: l => match aLoad E H t (gT T p), resA E T H l with | some v, some r => some (v :: r) | _, _ => none

def oneRes : List A → A
  | [a] => a
  | l => .tup l

def Fin (E : Env) (rs : List ResultVar) (r : A) (H' : Heap) (m : Nat) : Exit → List A → Heap → Prop
  | .normal, T, H => ∃ l, resA E T H rs = some l ∧ Wk m [oneRes l] H [r] H'
  | .ret, T, H => ∃ l, resA E T H rs = some l ∧ Wk m [oneRes l] H [r] H'
  | _, _, _ => False

def resV (tmps : Array Value) : ResultVar → Sem Value
  | .tmp t => pure (tmps.getD t undef)
  | .cell a t => do loadVar t (← asAddr (tmps.getD a undef))

section
variable {E : Env}

theorem resA_ok {B : Base} {x : Ctx} {O : Nat → Nat → Prop} {H : Heap} (hR : Rel B x O H) {T : List A} {tmps : Array Value} (hT : TR x T tmps) : ∀ {rs : List ResultVar} {l : List A}, resA E T H rs = some l →
    ∃ vs : List Value, (rs.mapM (resV tmps)).run E.P x.w = .ok vs x.w ∧ vs.length = l.length ∧
      ∀ (i : Nat) a, l[i]? = some a → ∃ u, vs[i]? = some u ∧ VA x a u
  | [], l, h => by cases h; exact ⟨[], by simp, rfl, fun i a h => by simp at h⟩
  | .tmp t :: rs, l, h => by
    simp only [resA] at h
    split at h
    · rename_i r hr
      cases h
      obtain ⟨vs, h1, h2, h3⟩ := resA_ok hR hT hr
      refine ⟨tmps.getD t undef :: vs, by rw [List.mapM_cons]; simp only [Sem.run_bind, resV, Sem.run_pure, Result.andThen_ok, h1], by simp [h2], fun i a hi => ?_⟩
      cases i with
      | zero => cases hi; exact ⟨_, rfl, hT.get t⟩
      | succ i => exact h3 i a (by simpa using hi)
    · cases h
  | .cell p t :: rs, l, h => by
    simp only [resA] at h
    split at h
    · rename_i v r hv hr
      cases h
      obtain ⟨vs, h1, h2, h3⟩ := resA_ok hR hT hr
      obtain ⟨u, hu, hva⟩ := aLoad_ok hR (hT.get p) hv
      have hld : (do loadVar t (← asAddr (tmps.getD p undef))).run E.P x.w = .ok u x.w := by
        unfold Instr.loadAt at hu
        cases hq : tmps.getD p undef with
        | pointer a =>
          cases a with
          | none => rw [hq] at hu; simp [Instr.sureAddr] at hu
          | some a => rw [hq] at hu; simpa [Instr.sureAddr, asAddr] using hu
        | _ => rw [hq] at hu; simp [Instr.sureAddr] at hu
      refine ⟨u :: vs, ?_, by simp [h2], fun i a hi => ?_⟩
      · rw [List.mapM_cons]
        have : (resV tmps (.cell p t)).run E.P x.w = .ok u x.w := hld
        simp only [Sem.run_bind, this, Result.andThen_ok, h1, Sem.run_pure]
      · cases i with
        | zero => cases hi; exact ⟨_, rfl, hva⟩
        | succ i => exact h3 i a (by simpa using hi)
    · cases h

theorem afn_body {f : FuncId} {fn : Func} {c : Code} {args : List A} {H H' : Heap} {r : A} (hf : E.P.funcs[f]? = some fn) (hb : fn.body = some c) (hn : (fn.name != "runtime.NumGoroutine") = true)
    (h : AWP E c (args ++ List.replicate (fn.ntmps - args.length) .und) H (Fin E fn.results.toList r H' H.length) H.length) : AFn E f args H r H' := by
  refine ⟨by simp only [fnOk, hf, hb, Option.isSome_some, Bool.true_and, hn], fun B vs w hB hm hs => ?_⟩
  refine calls_of_wp hf hb ?_
  obtain ⟨x, O, rfl, hR, hT⟩ := hs
  have hsz := hT.1
  have hs' : SR B (args ++ List.replicate (fn.ntmps - args.length) .und) H { tmps := vs ++ Array.replicate (fn.ntmps - vs.size) undef, defers := [] } x.w := by
    refine ⟨rfl, x, O, rfl, hR, by simp [hsz], fun i a hi => ?_⟩
    by_cases hlt : i < args.length
    · rw [List.getElem?_append_left hlt] at hi
      obtain ⟨u, hu, hv⟩ := hT.2 i a hi
      exact ⟨u, by rw [Array.getElem?_append_left (by omega)]; exact hu, hv⟩
    · rw [List.getElem?_append_right (by omega), List.getElem?_replicate] at hi
      split at hi
      · rename_i hl2
        cases hi
        refine ⟨undef, ?_, .und⟩
        rw [Array.getElem?_append_right (by omega), Array.getElem?_replicate, if_pos (by omega)]
      · cases hi
  refine wp_mono (h B _ x.w hB hm hs') ?_
  rintro e a' w' ⟨T', H1, hq, hd, hsr⟩
  have key : (∃ l, resA E T' H1 fn.results.toList = some l ∧ Wk H.length [oneRes l] H1 [r] H') → a'.defers = [] ∧ ∃ v, (results fn a'.tmps).run E.P w' = .ok v w' ∧ ∃ v', Ending.returned v = .returned v' ∧ SRel B [r] H' #[v'] w' := by
    rintro ⟨l, hl, hw⟩
    obtain ⟨y, O', rfl, hR', hT'⟩ := hsr
    obtain ⟨us, h1, h2, h3⟩ := resA_ok hR' hT' hl
    have hres : ∃ v, (results fn a'.tmps).run E.P y.w = .ok v y.w ∧ VA y (oneRes l) v := by
      have hm : (fn.results.mapM (resV a'.tmps)).run E.P y.w = .ok us.toArray y.w := by
        rw [Array.mapM_eq_mapM_toList]
        simp only [map_eq_pure_bind, Sem.run_bind, h1, Result.andThen_ok, Sem.run_pure]
      have hfun : results fn a'.tmps = (fn.results.mapM (resV a'.tmps) >>= fun vs => pure (if h : vs.size = 1 then vs[0] else .tuple vs)) := by
        unfold results
        exact congrArg (fun g => (fn.results.mapM g >>= fun vs => pure (if h : vs.size = 1 then vs[0] else Value.tuple vs))) (funext fun r => by cases r <;> rfl)
      rw [hfun]
      simp only [Sem.run_bind, hm, Result.andThen_ok, Sem.run_pure, List.size_toArray]
      match l, us, h2, h3 with
      | [], [], _, _ => exact ⟨_, rfl, .tup [] #[] (fun _ => undef) rfl (fun i a h => by simp at h) (fun i a h => by simp at h)⟩
      | [a], [u], _, h3 =>
        obtain ⟨u', hu, hv⟩ := h3 0 a rfl
        cases hu
        exact ⟨u, by simp, hv⟩
      | a :: b :: l, u :: v :: us, h2, h3 =>
        refine ⟨.tuple (u :: v :: us).toArray, by simp, .tup _ _ (fun i => ((u :: v :: us)[i]?).getD undef) (by simpa using h2) (fun i c hc => ?_) (fun i c hc => ?_)⟩
        · obtain ⟨w, hw, _⟩ := h3 i c hc
          simp only [List.getElem?_toArray, hw, Option.getD_some]
        · obtain ⟨w, hw, hv⟩ := h3 i c hc
          simp only [hw, Option.getD_some]
          exact hv
    obtain ⟨v, hv1, hv2⟩ := hres
    refine ⟨hd, v, hv1, v, rfl, ?_⟩
    exact (hw B ⟨#[v], []⟩ y.w hm ⟨rfl, y, O', rfl, hR', rfl, fun i a hi => by
      cases i with
      | zero => cases hi; exact ⟨v, rfl, hv2⟩
      | succ i => simp at hi⟩).2
  cases e with
  | normal => exact key hq
  | ret => exact key hq
  | _ => exact hq.elim

end
end Go.Eng
