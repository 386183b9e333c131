/- Each function of the program, walked over plain data: what it comes to, at all arguments. -/
import Derived.Test.YthodghlpcklaeaaDoorEf
import Derived.Test.YthodghlpcklaeaaDoorProg
import Derived.KernelRfl
namespace Go.Eng
open Go
set_option linter.unusedSimpArgs false

def dI (n : Int) : D := .sc (.int .i64 n)
def dB (b : Bool) : D := .sc (.bool b)
def aI (n : Int) : A := .c (.d (.sc (.int .i64 n)))
def aB (b : Bool) : A := .c (.d (.sc (.bool b)))
def aF (l : List (List D)) : A := .c (.d (.fz l))
def P0 : A := .c (.ptr 0 0 0 0)

inductive T
  | mk (op n : Int) (kids : List T)
def T.op : T → Int | .mk o _ _ => o
def T.n : T → Int | .mk _ n _ => n
def T.kids : T → List T | .mk _ _ k => k
mutual
def T.row : T → List D
  | .mk o n k => [dI o, dI n, .fz (T.rows k)]
def T.rows : List T → List (List D)
  | [] => []
  | t :: l => t.row :: T.rows l
end
theorem T.rows_eq (l : List T) : T.rows l = l.map T.row := by
  induction l with
  | nil => rfl
  | cons t l ih => simp [T.rows, ih]
theorem T.row_eq (t : T) : t.row = [dI t.op, dI t.n, .fz (t.kids.map T.row)] := by
  cases t with | mk o n k => simp [T.row, T.rows_eq, T.op, T.n, T.kids]
mutual
def T.size : T → Nat
  | .mk _ _ k => T.sizes k + 1
def T.sizes : List T → Nat
  | [] => 0
  | t :: l => t.size + T.sizes l
end
theorem T.size_eq (t : T) : t.size = T.sizes t.kids + 1 := by cases t; rfl
theorem T.size_kid {k : T} : ∀ {l : List T}, k ∈ l → k.size ≤ T.sizes l
  | [], h => by simp at h
  | a :: l, h => by
    simp only [T.sizes]
    rcases List.mem_cons.1 h with rfl | h
    · omega
    · have := T.size_kid h; omega
theorem T.size_lt {k t : T} (h : k ∈ t.kids) : k.size < t.size := by
  have := T.size_kid h; have := T.size_eq t; omega
theorem T.size_pos (t : T) : 0 < t.size := by rw [T.size_eq]; omega
theorem T.len_le : ∀ (l : List T), l.length ≤ T.sizes l
  | [] => by simp
  | t :: l => by have := T.len_le l; have := t.size_pos; simp only [T.sizes, List.length_cons]; omega
theorem T.kids_len (t : T) : t.kids.length < t.size := by have := T.len_le t.kids; have := T.size_eq t; omega
def T.a (t : T) : A := .agg [.d (dI t.op), .d (dI t.n), .d (.fz (t.kids.map T.row))]
def t0 : T := .mk 0 0 []
instance : Inhabited T := ⟨t0⟩

structure Nd where
  kind : Int
  x : Int
  t : T
instance : Inhabited Nd := ⟨⟨0, 0, t0⟩⟩
def Nd.row (d : Nd) : List D := [dI d.kind, dI d.x, dI d.t.op, dI d.t.n, .fz (d.t.kids.map T.row)]
structure Fl where
  src : Int
  dst : Int
  els : Bool
  t : T
instance : Inhabited Fl := ⟨⟨0, 0, false, t0⟩⟩
def Fl.row (d : Fl) : List D := [dI d.src, dI d.dst, dB d.els, dI d.t.op, dI d.t.n, .fz (d.t.kids.map T.row)]
def Nd.a (d : Nd) : A := .agg [.d (dI d.kind), .d (dI d.x), .d (dI d.t.op), .d (dI d.t.n), .d (.fz (d.t.kids.map T.row))]
def Fl.a (d : Fl) : A := .agg [.d (dI d.src), .d (dI d.dst), .d (dB d.els), .d (dI d.t.op), .d (dI d.t.n), .d (.fz (d.t.kids.map T.row))]
structure Lk where
  src : Int
  dst : Int
instance : Inhabited Lk := ⟨⟨0, 0⟩⟩
def Lk.row (d : Lk) : List D := [dI d.src, dI d.dst]
def Lk.a (d : Lk) : A := .agg [.d (dI d.src), .d (dI d.dst)]

inductive B
  | mk (kind node x y : Int) (t : T) (conds : List T) (kids : List B) (links : List Lk) (nodes : List Nd) (flows : List Fl)
def B.kind : B → Int | .mk k _ _ _ _ _ _ _ _ _ => k
def B.node : B → Int | .mk _ k _ _ _ _ _ _ _ _ => k
def B.x : B → Int | .mk _ _ k _ _ _ _ _ _ _ => k
def B.y : B → Int | .mk _ _ _ k _ _ _ _ _ _ => k
def B.t : B → T | .mk _ _ _ _ k _ _ _ _ _ => k
def B.conds : B → List T | .mk _ _ _ _ _ k _ _ _ _ => k
def B.kids : B → List B | .mk _ _ _ _ _ _ k _ _ _ => k
def B.links : B → List Lk | .mk _ _ _ _ _ _ _ k _ _ => k
def B.nodes : B → List Nd | .mk _ _ _ _ _ _ _ _ k _ => k
def B.flows : B → List Fl | .mk _ _ _ _ _ _ _ _ _ k => k
mutual
def B.row : B → List D
  | .mk k n x y t c ks l ns fs => [dI k, dI n, dI x, dI y, dI t.op, dI t.n, .fz (t.kids.map T.row), .fz (c.map T.row), .fz (B.rows ks), .fz (l.map Lk.row), .fz (ns.map Nd.row), .fz (fs.map Fl.row)]
def B.rows : List B → List (List D)
  | [] => []
  | t :: l => t.row :: B.rows l
end
theorem B.rows_eq (l : List B) : B.rows l = l.map B.row := by
  induction l with
  | nil => rfl
  | cons t l ih => simp [B.rows, ih]
def B.cs (b : B) : List D := [dI b.kind, dI b.node, dI b.x, dI b.y, dI b.t.op, dI b.t.n, .fz (b.t.kids.map T.row), .fz (b.conds.map T.row), .fz (b.kids.map B.row), .fz (b.links.map Lk.row), .fz (b.nodes.map Nd.row), .fz (b.flows.map Fl.row)]
theorem B.row_eq (b : B) : b.row = [dI b.kind, dI b.node, dI b.x, dI b.y, dI b.t.op, dI b.t.n, .fz (b.t.kids.map T.row), .fz (b.conds.map T.row), .fz (b.kids.map B.row), .fz (b.links.map Lk.row), .fz (b.nodes.map Nd.row), .fz (b.flows.map Fl.row)] := by
  cases b with | mk k n x y t c ks l ns fs => simp only [B.row, B.rows_eq, B.kind, B.node, B.x, B.y, B.t, B.conds, B.kids, B.links, B.nodes, B.flows]
def B.bs (b : B) : List C := [.d (dI b.kind), .d (dI b.node), .d (dI b.x), .d (dI b.y), .d (dI b.t.op), .d (dI b.t.n), .d (.fz (b.t.kids.map T.row)), .d (.fz (b.conds.map T.row)), .d (.fz (b.kids.map B.row)), .d (.fz (b.links.map Lk.row)), .d (.fz (b.nodes.map Nd.row)), .d (.fz (b.flows.map Fl.row))]
def B.a (b : B) : A := .agg [.d (dI b.kind), .d (dI b.node), .d (dI b.x), .d (dI b.y), .d (dI b.t.op), .d (dI b.t.n), .d (.fz (b.t.kids.map T.row)), .d (.fz (b.conds.map T.row)), .d (.fz (b.kids.map B.row)), .d (.fz (b.links.map Lk.row)), .d (.fz (b.nodes.map Nd.row)), .d (.fz (b.flows.map Fl.row))]
def b0 : B := .mk 0 0 0 0 t0 [] [] [] [] []
instance : Inhabited B := ⟨b0⟩
def Nd.sizes : List Nd → Nat
  | [] => 0
  | d :: l => d.t.size + Nd.sizes l
def Fl.sizes : List Fl → Nat
  | [] => 0
  | d :: l => d.t.size + Fl.sizes l
mutual
def B.size : B → Nat
  | .mk _ _ _ _ t c ks l ns fs => t.size + T.sizes c + l.length + Nd.sizes ns + Fl.sizes fs + B.sizes ks + 1
def B.sizes : List B → Nat
  | [] => 0
  | t :: l => t.size + B.sizes l
end
theorem B.size_eq (b : B) : b.size = b.t.size + T.sizes b.conds + b.links.length + Nd.sizes b.nodes + Fl.sizes b.flows + B.sizes b.kids + 1 := by cases b; rfl
theorem B.size_kid {k : B} : ∀ {l : List B}, k ∈ l → k.size ≤ B.sizes l
  | [], h => by simp at h
  | a :: l, h => by
    simp only [B.sizes]
    rcases List.mem_cons.1 h with rfl | h
    · omega
    · have := B.size_kid h; omega
theorem B.size_lt {k t : B} (h : k ∈ t.kids) : k.size < t.size := by
  have := B.size_kid h; have := B.size_eq t; omega
theorem B.size_pos (t : B) : 0 < t.size := by rw [B.size_eq]; omega
theorem B.len_le : ∀ (l : List B), l.length ≤ B.sizes l
  | [] => by simp
  | t :: l => by have := B.len_le l; have := t.size_pos; simp only [B.sizes, List.length_cons]; omega
theorem Nd.size_kid {k : Nd} : ∀ {l : List Nd}, k ∈ l → k.t.size ≤ Nd.sizes l
  | [], h => by simp at h
  | a :: l, h => by
    simp only [Nd.sizes]
    rcases List.mem_cons.1 h with rfl | h
    · omega
    · have := Nd.size_kid h; omega
theorem Nd.len_le : ∀ (l : List Nd), l.length ≤ Nd.sizes l
  | [] => by simp
  | t :: l => by have := Nd.len_le l; have := t.t.size_pos; simp only [Nd.sizes, List.length_cons]; omega
theorem Fl.size_kid {k : Fl} : ∀ {l : List Fl}, k ∈ l → k.t.size ≤ Fl.sizes l
  | [], h => by simp at h
  | a :: l, h => by
    simp only [Fl.sizes]
    rcases List.mem_cons.1 h with rfl | h
    · omega
    · have := Fl.size_kid h; omega
theorem Fl.len_le : ∀ (l : List Fl), l.length ≤ Fl.sizes l
  | [] => by simp
  | t :: l => by have := Fl.len_le l; have := t.t.size_pos; simp only [Fl.sizes, List.length_cons]; omega

abbrev Str := List UInt8
def dS (s : Str) : D := .sc (.string (st s))
structure Wd where
  text : Str
  kids : Int
  of : Int
  out : Int
instance : Inhabited Wd := ⟨⟨[], 0, 0, 0⟩⟩
def Wd.row (b : Wd) : List D := [dS b.text, dI b.kids, dI b.of, dI b.out]
def words : List Wd := [⟨[], 0, 0, 0⟩, ⟨[], 0, 0, 0⟩, ⟨[], 0, 0, 0⟩, ⟨[110, 101, 103], 1, 1, 1⟩, ⟨[110, 111, 116], 1, 2, 2⟩, ⟨[97, 100, 100], 2, 1, 1⟩, ⟨[115, 117, 98], 2, 1, 1⟩, ⟨[109, 117, 108], 2, 1, 1⟩,
  ⟨[100, 105, 118], 2, 1, 1⟩, ⟨[109, 111, 100], 2, 1, 1⟩, ⟨[101, 113], 2, 1, 2⟩, ⟨[108, 116], 2, 1, 2⟩, ⟨[108, 101], 2, 1, 2⟩, ⟨[97, 110, 100], 2, 2, 2⟩, ⟨[111, 114], 2, 2, 2⟩]

structure It where
  par : Int
  pos : Int
  b : B
instance : Inhabited It := ⟨⟨0, 0, b0⟩⟩
def It.row (i : It) : List D := [dI i.par, dI i.pos, dI i.b.kind, dI i.b.node, dI i.b.x, dI i.b.y, dI i.b.t.op, dI i.b.t.n, .fz (i.b.t.kids.map T.row), .fz (i.b.conds.map T.row), .fz (i.b.kids.map B.row), .fz (i.b.links.map Lk.row), .fz (i.b.nodes.map Nd.row), .fz (i.b.flows.map Fl.row)]
def It.a (i : It) : A := .agg [.d (dI i.par), .d (dI i.pos), .d (dI i.b.kind), .d (dI i.b.node), .d (dI i.b.x), .d (dI i.b.y), .d (dI i.b.t.op), .d (dI i.b.t.n), .d (.fz (i.b.t.kids.map T.row)), .d (.fz (i.b.conds.map T.row)), .d (.fz (i.b.kids.map B.row)), .d (.fz (i.b.links.map Lk.row)), .d (.fz (i.b.nodes.map Nd.row)), .d (.fz (i.b.flows.map Fl.row))]

theorem dropM {α β : Type} (f : α → β) (l : List α) (i : Nat) : (l.map f).drop i = (l.drop i).map f := (List.map_drop ..).symm
theorem renM (g : Nat → Nat) (l : List D) : renCs g (l.map .d) = l.map .d := by
  rw [renCs_eq, List.map_map]; rfl
theorem invM (sel : List Nat) : ∀ l : List D, invCs sel (l.map .d) = some (l.map .d)
  | [] => rfl
  | d :: l => by simp only [List.map_cons, invCs, invC, invM sel l]
theorem cutM (k : Nat) (l : List D) : cutCells k (l.map .d) = l.map .d := by
  rw [cutCells_eq, List.map_map]; rfl
def Rm (r : Int) : Option Blk := some (.box [.d (dI r)])
attribute [go_sem] Rm renM invM dS Wd.row cutM dropM dI dB aI aB aF T.row_eq T.a Nd.row Nd.a Fl.row Fl.a Lk.row Lk.a B.row_eq B.a It.row It.a P0
end Go.Eng
open Go
namespace Go.Eng
set_option linter.unusedSimpArgs false
set_option linter.unusedVariables false
def cI1 (n : Int) : C := .d (.sc (.int .i64 n))
def stC (s : List Int) : List C := s.map cI1
theorem stC_len (s : List Int) : (stC s).length = s.length := by simp [stC]
theorem cut_arr {s : List Int} : ∀ {o n : Nat}, o + n ≤ s.length → cutC o n (stC s) = some (stC ((s.drop o).take n)) := by
  intro o
  induction o generalizing s with
  | zero =>
    intro n
    induction n generalizing s with
    | zero => intro h; cases s <;> rfl
    | succ n ih =>
      intro h
      cases s with
      | nil => simp at h
      | cons a s =>
        have := ih (s := s) (by simp only [List.length_cons] at h; omega)
        simp only [List.drop_zero] at this ⊢
        rw [List.take_succ_cons]
        show cutC 0 (n + 1) (cI1 a :: stC s) = _
        rw [cutC_1, this]; rfl
  | succ o ih =>
    intro n h
    cases s with
    | nil => simp at h
    | cons a s =>
      show cutC (o + 1) n (cI1 a :: stC s) = _
      rw [cutC_2, ih (by simp only [List.length_cons] at h; omega)]; rfl
theorem cut_all {s : List Int} {n : Nat} (h : s.length = n) : cutC 0 n (stC s) = some (stC s) := by
  rw [cut_arr (by omega), List.drop_zero, List.take_of_length_le (by omega)]
theorem cut_at {s : List Int} {o : Nat} (h : o < s.length) : cutC o 1 (stC s) = some [.d (.sc (.int .i64 (gt s o)))] := by
  rw [cut_arr (by omega), drop_gt h]; rfl
theorem spl_part {a s : List Int} : ∀ {o : Nat}, o + a.length ≤ s.length → splC o (stC a) (stC s) = some (stC (s.take o ++ a ++ s.drop (o + a.length))) := by
  intro o
  induction o generalizing s with
  | zero =>
    induction a generalizing s with
    | nil => intro _; simp; cases s <;> rfl
    | cons b a ih =>
      intro h
      cases s with
      | nil => simp at h
      | cons c s =>
        have := ih (s := s) (by simp only [List.length_cons] at h; omega)
        show splC 0 (cI1 b :: stC a) (cI1 c :: stC s) = _
        simp only [splC, this]
        simp [stC]
  | succ o ih =>
    intro h
    cases s with
    | nil => simp at h
    | cons c s =>
      have := ih (s := s) (by simp only [List.length_cons] at h; omega)
      show splC (o + 1) (stC a) (cI1 c :: stC s) = _
      simp only [splC, this]
      simp [stC, show o + 1 + a.length = (o + a.length) + 1 by omega]
theorem spl_all {s t : List Int} (h : s.length = t.length) : splC 0 (stC t) (stC s) = some (stC t) := by
  rw [spl_part (by omega), List.take_zero, List.nil_append, List.drop_eq_nil_of_le (by omega), List.append_nil]
theorem spl_rep {t : List Int} {n : Nat} {a : Int} (h : t.length = n) : splC 0 (stC t) (stC (List.replicate n a)) = some (stC t) := spl_all (by simp [h])
theorem spl_at {s : List Int} {o : Nat} {v : Int} (h : o < s.length) : splC o [.d (.sc (.int .i64 v))] (stC s) = some (stC (s.set o v)) := by
  have := spl_part (a := [v]) (s := s) (o := o) (by simp; omega)
  rw [List.set_eq_take_append_cons_drop, if_pos h]
  show splC o (stC [v]) (stC s) = _
  rw [this]; simp
theorem frCs_st (m : Nat) (H : Heap) : ∀ s : List Int, frCs m H (stC s) = some (stC s, H)
  | [] => rfl
  | a :: s => by
    show frCs m H (cI1 a :: stC s) = _
    rw [frCs_c]
    simp only [cI1, frC, frCsA_s, frCs_st m H s, mapP_s]; rfl
theorem eqI_st : ∀ {s t : List Int}, s.length = t.length → eqInts (stC s) (stC t) = some (decide (s = t))
  | [], [], _ => rfl
  | a :: s, b :: t, h => by
    show eqInts (cI1 a :: stC s) (cI1 b :: stC t) = _
    simp only [cI1, eqInts, if_pos, eqI_st (s := s) (t := t) (by simpa using h)]
    congr 1
    rw [Bool.eq_iff_iff]; simp
  | [], _ :: _, h => by simp at h
  | _ :: _, [], h => by simp at h
theorem allOne_rep : ∀ n : Nat, allOne (List.replicate n (.int .i64 0)) = true
  | 0 => rfl
  | n + 1 => by rw [List.replicate_succ, allOne, allOne_rep n]; rfl
theorem map_cv (n : Nat) : List.map cvC (List.replicate n (.int .i64 0)) = stC (List.replicate n 0) := by simp [stC, cI1, cvC]
theorem toL_mk (l : List Value) : (Array.mk l).toList = l := rfl
theorem cutM_st (k : Nat) (s : List Int) : cutCells k (stC s) = stC s := by
  rw [cutCells_eq, stC, List.map_map]; rfl
theorem renC_st (g : Nat → Nat) : ∀ s : List Int, renCs g (stC s) = stC s
  | [] => by simp [stC, renCs]
  | a :: s => by
    have := renC_st g s
    simp only [stC, List.map_cons, renCs] at this ⊢
    rw [this]; simp [cI1, renC]
theorem invC_st (sel : List Nat) : ∀ s : List Int, invCs sel (stC s) = some (stC s)
  | [] => by simp [stC, invCs]
  | a :: s => by
    have := invC_st sel s
    simp only [stC, List.map_cons, invCs] at this ⊢
    rw [this]; simp [cI1, invC]
theorem okC_st (k : Nat) : ∀ s : List Int, okCs k (stC s) = true
  | [] => by simp [stC, okCs]
  | a :: s => by
    have := okC_st k s
    simp only [stC, List.map_cons, okCs] at this ⊢
    rw [this]; simp [cI1, okC]
theorem cut_att {s : List Int} {a n o : Nat} (h1 : o < n) (h2 : a + n ≤ s.length) : cutC o 1 (stC ((s.drop a).take n)) = some [.d (.sc (.int .i64 (gt s (a + o))))] := by
  rw [cut_at (by simp; omega)]
  congr 5
  simp [gt, List.getD, List.getElem?_take, h1]
attribute [go_sem 1500] cut_att
attribute [go_sem] map_cv toL_mk allOne_rep List.length_replicate
attribute [go_sem] renC_st invC_st okC_st cutM_st stC_len cut_all cut_at spl_at spl_all spl_rep frCs_st eqI_st
attribute [go_sem 900] cut_arr
end Go.Eng
open Go Go.Proofs
namespace Go.Eng
set_option linter.unusedSimpArgs false
noncomputable def env : Env := mkEnv Tryd.prog (by kernel_rfl) (fun g => match g with | 0 => .pa (words.map Wd.row) | _ => .any) (fun g => by split <;> rfl)
theorem g0 : env.glob 0 = .pa (words.map Wd.row) := rfl
attribute [go_sem] g0

theorem t2und : env.und 2 = some (.int .i64) := by kernel_rfl
theorem t2kind : env.kind 2 = some .i64 := by kernel_rfl
theorem t2ty : env.ty 2 = none := by kernel_rfl
theorem t2agg : env.agg 2 = some false := by kernel_rfl
theorem t2size : env.size 2 = some 1 := by kernel_rfl
theorem t2inf : env.inf 2 = some (1, 8, (.int .i64 0)) := by kernel_rfl
theorem t3und : env.und 3 = some (.int .i64) := by kernel_rfl
theorem t3kind : env.kind 3 = some .i64 := by kernel_rfl
theorem t3ty : env.ty 3 = none := by kernel_rfl
theorem t3agg : env.agg 3 = some false := by kernel_rfl
theorem t3size : env.size 3 = some 1 := by kernel_rfl
theorem t3inf : env.inf 3 = some (1, 8, (.int .i64 0)) := by kernel_rfl
theorem t4und : env.und 4 = some .bool := by kernel_rfl
theorem t4bln : env.bln 4 = true := by kernel_rfl
theorem t4ty : env.ty 4 = none := by kernel_rfl
theorem t4agg : env.agg 4 = some false := by kernel_rfl
theorem t4size : env.size 4 = some 1 := by kernel_rfl
theorem t4inf : env.inf 4 = some (1, 1, (.bool false)) := by kernel_rfl
theorem t5und : env.und 5 = some (.int .u8) := by kernel_rfl
theorem t5kind : env.kind 5 = some .u8 := by kernel_rfl
theorem t5ty : env.ty 5 = none := by kernel_rfl
theorem t5agg : env.agg 5 = some false := by kernel_rfl
theorem t5size : env.size 5 = some 1 := by kernel_rfl
theorem t5inf : env.inf 5 = some (1, 1, (.int .u8 0)) := by kernel_rfl
theorem t9und : env.und 9 = some .string := by kernel_rfl
theorem t9str : env.str 9 = true := by kernel_rfl
theorem t9noInt : env.noInt 9 = true := by kernel_rfl
theorem t9ty : env.ty 9 = none := by kernel_rfl
theorem t9agg : env.agg 9 = some false := by kernel_rfl
theorem t9size : env.size 9 = some 1 := by kernel_rfl
theorem t9inf : env.inf 9 = some (1, 16, (.string ⟨#[]⟩)) := by kernel_rfl
theorem t12und : env.und 12 = some (.int .u64) := by kernel_rfl
theorem t12kind : env.kind 12 = some .u64 := by kernel_rfl
theorem t12ty : env.ty 12 = none := by kernel_rfl
theorem t12agg : env.agg 12 = some false := by kernel_rfl
theorem t12size : env.size 12 = some 1 := by kernel_rfl
theorem t12inf : env.inf 12 = some (1, 8, (.int .u64 0)) := by kernel_rfl
theorem t13isS : env.isStruct 13 = true := by kernel_rfl
theorem t13f0 : env.fld 13 0 = some (0, 9) := by kernel_rfl
theorem t13f1 : env.fld 13 1 = some (1, 12) := by kernel_rfl
theorem t13ty : env.ty 13 = none := by kernel_rfl
theorem t13agg : env.agg 13 = some true := by kernel_rfl
theorem t13size : env.size 13 = some 2 := by kernel_rfl
theorem t13inf : env.inf 13 = some (2, 24, (.agg #[(.string ⟨#[]⟩), (.int .u64 0)])) := by kernel_rfl
theorem t21und : env.und 21 = some (.int .i32) := by kernel_rfl
theorem t21kind : env.kind 21 = some .i32 := by kernel_rfl
theorem t21ty : env.ty 21 = none := by kernel_rfl
theorem t21agg : env.agg 21 = some false := by kernel_rfl
theorem t21size : env.size 21 = some 1 := by kernel_rfl
theorem t21inf : env.inf 21 = some (1, 4, (.int .i32 0)) := by kernel_rfl
theorem t22und : env.und 22 = some (.slice 24) := by kernel_rfl
theorem t22noInt : env.noInt 22 = true := by kernel_rfl
theorem t22elt : env.elt 22 = some 24 := by kernel_rfl
theorem t22ty : env.ty 22 = none := by kernel_rfl
theorem t22agg : env.agg 22 = some false := by kernel_rfl
theorem t22size : env.size 22 = some 1 := by kernel_rfl
theorem t22inf : env.inf 22 = some (1, 24, (.slice none 0 0)) := by kernel_rfl
theorem t23isS : env.isStruct 23 = true := by kernel_rfl
theorem t23f0 : env.fld 23 0 = some (0, 3) := by kernel_rfl
theorem t23f1 : env.fld 23 1 = some (1, 3) := by kernel_rfl
theorem t23f2 : env.fld 23 2 = some (2, 22) := by kernel_rfl
theorem t23ty : env.ty 23 = none := by kernel_rfl
theorem t23agg : env.agg 23 = some true := by kernel_rfl
theorem t23size : env.size 23 = some 3 := by kernel_rfl
theorem t23inf : env.inf 23 = some (3, 40, (.agg #[(.int .i64 0), (.int .i64 0), (.slice none 0 0)])) := by kernel_rfl
theorem t24isS : env.isStruct 24 = true := by kernel_rfl
theorem t24f0 : env.fld 24 0 = some (0, 3) := by kernel_rfl
theorem t24f1 : env.fld 24 1 = some (1, 3) := by kernel_rfl
theorem t24f2 : env.fld 24 2 = some (2, 22) := by kernel_rfl
theorem t24ty : env.ty 24 = none := by kernel_rfl
theorem t24agg : env.agg 24 = some true := by kernel_rfl
theorem t24size : env.size 24 = some 3 := by kernel_rfl
theorem t24inf : env.inf 24 = some (3, 40, (.agg #[(.int .i64 0), (.int .i64 0), (.slice none 0 0)])) := by kernel_rfl
theorem t25und : env.und 25 = some (.slice 32) := by kernel_rfl
theorem t25noInt : env.noInt 25 = true := by kernel_rfl
theorem t25elt : env.elt 25 = some 32 := by kernel_rfl
theorem t25ty : env.ty 25 = none := by kernel_rfl
theorem t25agg : env.agg 25 = some false := by kernel_rfl
theorem t25size : env.size 25 = some 1 := by kernel_rfl
theorem t25inf : env.inf 25 = some (1, 24, (.slice none 0 0)) := by kernel_rfl
theorem t26und : env.und 26 = some (.slice 58) := by kernel_rfl
theorem t26noInt : env.noInt 26 = true := by kernel_rfl
theorem t26elt : env.elt 26 = some 58 := by kernel_rfl
theorem t26ty : env.ty 26 = none := by kernel_rfl
theorem t26agg : env.agg 26 = some false := by kernel_rfl
theorem t26size : env.size 26 = some 1 := by kernel_rfl
theorem t26inf : env.inf 26 = some (1, 24, (.slice none 0 0)) := by kernel_rfl
theorem t27und : env.und 27 = some (.slice 54) := by kernel_rfl
theorem t27noInt : env.noInt 27 = true := by kernel_rfl
theorem t27elt : env.elt 27 = some 54 := by kernel_rfl
theorem t27ty : env.ty 27 = none := by kernel_rfl
theorem t27agg : env.agg 27 = some false := by kernel_rfl
theorem t27size : env.size 27 = some 1 := by kernel_rfl
theorem t27inf : env.inf 27 = some (1, 24, (.slice none 0 0)) := by kernel_rfl
theorem t28und : env.und 28 = some (.slice 56) := by kernel_rfl
theorem t28noInt : env.noInt 28 = true := by kernel_rfl
theorem t28elt : env.elt 28 = some 56 := by kernel_rfl
theorem t28ty : env.ty 28 = none := by kernel_rfl
theorem t28agg : env.agg 28 = some false := by kernel_rfl
theorem t28size : env.size 28 = some 1 := by kernel_rfl
theorem t28inf : env.inf 28 = some (1, 24, (.slice none 0 0)) := by kernel_rfl
theorem t29isS : env.isStruct 29 = true := by kernel_rfl
theorem t29f0 : env.fld 29 0 = some (0, 27) := by kernel_rfl
theorem t29f1 : env.fld 29 1 = some (1, 28) := by kernel_rfl
theorem t29ty : env.ty 29 = none := by kernel_rfl
theorem t29agg : env.agg 29 = some true := by kernel_rfl
theorem t29size : env.size 29 = some 2 := by kernel_rfl
theorem t29inf : env.inf 29 = some (2, 48, (.agg #[(.slice none 0 0), (.slice none 0 0)])) := by kernel_rfl
theorem t30isS : env.isStruct 30 = true := by kernel_rfl
theorem t30f0 : env.fld 30 0 = some (0, 27) := by kernel_rfl
theorem t30f1 : env.fld 30 1 = some (1, 28) := by kernel_rfl
theorem t30ty : env.ty 30 = none := by kernel_rfl
theorem t30agg : env.agg 30 = some true := by kernel_rfl
theorem t30size : env.size 30 = some 2 := by kernel_rfl
theorem t30inf : env.inf 30 = some (2, 48, (.agg #[(.slice none 0 0), (.slice none 0 0)])) := by kernel_rfl
theorem t31isS : env.isStruct 31 = true := by kernel_rfl
theorem t31f0 : env.fld 31 0 = some (0, 3) := by kernel_rfl
theorem t31f1 : env.fld 31 1 = some (1, 3) := by kernel_rfl
theorem t31f2 : env.fld 31 2 = some (2, 3) := by kernel_rfl
theorem t31f3 : env.fld 31 3 = some (3, 3) := by kernel_rfl
theorem t31f4 : env.fld 31 4 = some (4, 24) := by kernel_rfl
theorem t31f5 : env.fld 31 5 = some (7, 22) := by kernel_rfl
theorem t31f6 : env.fld 31 6 = some (8, 25) := by kernel_rfl
theorem t31f7 : env.fld 31 7 = some (9, 26) := by kernel_rfl
theorem t31f8 : env.fld 31 8 = some (10, 30) := by kernel_rfl
theorem t31ty : env.ty 31 = none := by kernel_rfl
theorem t31agg : env.agg 31 = some true := by kernel_rfl
theorem t31size : env.size 31 = some 12 := by kernel_rfl
theorem t31inf : env.inf 31 = some (12, 192, (.agg #[(.int .i64 0), (.int .i64 0), (.int .i64 0), (.int .i64 0), (.int .i64 0), (.int .i64 0), (.slice none 0 0), (.slice none 0 0), (.slice none 0 0), (.slice none 0 0), (.slice none 0 0), (.slice none 0 0)])) := by kernel_rfl
theorem t32isS : env.isStruct 32 = true := by kernel_rfl
theorem t32f0 : env.fld 32 0 = some (0, 3) := by kernel_rfl
theorem t32f1 : env.fld 32 1 = some (1, 3) := by kernel_rfl
theorem t32f2 : env.fld 32 2 = some (2, 3) := by kernel_rfl
theorem t32f3 : env.fld 32 3 = some (3, 3) := by kernel_rfl
theorem t32f4 : env.fld 32 4 = some (4, 24) := by kernel_rfl
theorem t32f5 : env.fld 32 5 = some (7, 22) := by kernel_rfl
theorem t32f6 : env.fld 32 6 = some (8, 25) := by kernel_rfl
theorem t32f7 : env.fld 32 7 = some (9, 26) := by kernel_rfl
theorem t32f8 : env.fld 32 8 = some (10, 30) := by kernel_rfl
theorem t32ty : env.ty 32 = none := by kernel_rfl
theorem t32agg : env.agg 32 = some true := by kernel_rfl
theorem t32size : env.size 32 = some 12 := by kernel_rfl
theorem t32inf : env.inf 32 = some (12, 192, (.agg #[(.int .i64 0), (.int .i64 0), (.int .i64 0), (.int .i64 0), (.int .i64 0), (.int .i64 0), (.slice none 0 0), (.slice none 0 0), (.slice none 0 0), (.slice none 0 0), (.slice none 0 0), (.slice none 0 0)])) := by kernel_rfl
theorem t33und : env.und 33 = some (.slice 3) := by kernel_rfl
theorem t33noInt : env.noInt 33 = true := by kernel_rfl
theorem t33elt : env.elt 33 = some 3 := by kernel_rfl
theorem t33ty : env.ty 33 = none := by kernel_rfl
theorem t33agg : env.agg 33 = some false := by kernel_rfl
theorem t33size : env.size 33 = some 1 := by kernel_rfl
theorem t33inf : env.inf 33 = some (1, 24, (.slice none 0 0)) := by kernel_rfl
theorem t35und : env.und 35 = some (.pointer 37) := by kernel_rfl
theorem t35ptr : env.ptr 35 = true := by kernel_rfl
theorem t35ty : env.ty 35 = none := by kernel_rfl
theorem t35agg : env.agg 35 = some false := by kernel_rfl
theorem t35size : env.size 35 = some 1 := by kernel_rfl
theorem t35inf : env.inf 35 = some (1, 8, (.pointer none)) := by kernel_rfl
theorem t36isS : env.isStruct 36 = true := by kernel_rfl
theorem t36f0 : env.fld 36 0 = some (0, 3) := by kernel_rfl
theorem t36seq : env.seq 36 = some 1 := by kernel_rfl
theorem t36ty : env.ty 36 = none := by kernel_rfl
theorem t36agg : env.agg 36 = some true := by kernel_rfl
theorem t36size : env.size 36 = some 1 := by kernel_rfl
theorem t36inf : env.inf 36 = some (1, 8, (.agg #[(.int .i64 0)])) := by kernel_rfl
theorem t37isS : env.isStruct 37 = true := by kernel_rfl
theorem t37f0 : env.fld 37 0 = some (0, 3) := by kernel_rfl
theorem t37seq : env.seq 37 = some 1 := by kernel_rfl
theorem t37ty : env.ty 37 = none := by kernel_rfl
theorem t37agg : env.agg 37 = some true := by kernel_rfl
theorem t37size : env.size 37 = some 1 := by kernel_rfl
theorem t37inf : env.inf 37 = some (1, 8, (.agg #[(.int .i64 0)])) := by kernel_rfl
theorem t39und : env.und 39 = some (.array 40 3) := by kernel_rfl
theorem t39arr : env.arr 39 = some (40, 3) := by kernel_rfl
theorem t39ty : env.ty 39 = none := by kernel_rfl
theorem t39agg : env.agg 39 = some true := by kernel_rfl
theorem t39size : env.size 39 = some 40 := by kernel_rfl
theorem t39inf : env.inf 39 = some (40, 320, (.agg ⟨List.replicate 40 (.int .i64 0)⟩)) := by kernel_rfl
theorem t40und : env.und 40 = some (.array 64 3) := by kernel_rfl
theorem t40arr : env.arr 40 = some (64, 3) := by kernel_rfl
theorem t40ty : env.ty 40 = none := by kernel_rfl
theorem t40agg : env.agg 40 = some true := by kernel_rfl
theorem t40size : env.size 40 = some 64 := by kernel_rfl
theorem t40inf : env.inf 40 = some (64, 512, (.agg ⟨List.replicate 64 (.int .i64 0)⟩)) := by kernel_rfl
theorem t41isS : env.isStruct 41 = true := by kernel_rfl
theorem t41f0 : env.fld 41 0 = some (0, 39) := by kernel_rfl
theorem t41f1 : env.fld 41 1 = some (40, 40) := by kernel_rfl
theorem t41seq : env.seq 41 = some 104 := by kernel_rfl
theorem t41ty : env.ty 41 = none := by kernel_rfl
theorem t41agg : env.agg 41 = some true := by kernel_rfl
theorem t41size : env.size 41 = some 104 := by kernel_rfl
theorem t41inf : env.inf 41 = some (104, 832, (.agg ⟨List.replicate 104 (.int .i64 0)⟩)) := by kernel_rfl
theorem t42isS : env.isStruct 42 = true := by kernel_rfl
theorem t42f0 : env.fld 42 0 = some (0, 39) := by kernel_rfl
theorem t42f1 : env.fld 42 1 = some (40, 40) := by kernel_rfl
theorem t42seq : env.seq 42 = some 104 := by kernel_rfl
theorem t42ty : env.ty 42 = none := by kernel_rfl
theorem t42agg : env.agg 42 = some true := by kernel_rfl
theorem t42size : env.size 42 = some 104 := by kernel_rfl
theorem t42inf : env.inf 42 = some (104, 832, (.agg ⟨List.replicate 104 (.int .i64 0)⟩)) := by kernel_rfl
theorem t43und : env.und 43 = some (.int .i64) := by kernel_rfl
theorem t43kind : env.kind 43 = some .i64 := by kernel_rfl
theorem t43ty : env.ty 43 = none := by kernel_rfl
theorem t43agg : env.agg 43 = some false := by kernel_rfl
theorem t43size : env.size 43 = some 1 := by kernel_rfl
theorem t43inf : env.inf 43 = some (1, 8, (.int .i64 0)) := by kernel_rfl
theorem t50und : env.und 50 = some (.array 2 3) := by kernel_rfl
theorem t50arr : env.arr 50 = some (2, 3) := by kernel_rfl
theorem t50ty : env.ty 50 = none := by kernel_rfl
theorem t50agg : env.agg 50 = some true := by kernel_rfl
theorem t50size : env.size 50 = some 2 := by kernel_rfl
theorem t50inf : env.inf 50 = some (2, 16, (.agg #[(.int .i64 0), (.int .i64 0)])) := by kernel_rfl
theorem t53isS : env.isStruct 53 = true := by kernel_rfl
theorem t53f0 : env.fld 53 0 = some (0, 3) := by kernel_rfl
theorem t53f1 : env.fld 53 1 = some (1, 3) := by kernel_rfl
theorem t53f2 : env.fld 53 2 = some (2, 24) := by kernel_rfl
theorem t53ty : env.ty 53 = none := by kernel_rfl
theorem t53agg : env.agg 53 = some true := by kernel_rfl
theorem t53size : env.size 53 = some 5 := by kernel_rfl
theorem t53inf : env.inf 53 = some (5, 56, (.agg #[(.int .i64 0), (.int .i64 0), (.int .i64 0), (.int .i64 0), (.slice none 0 0)])) := by kernel_rfl
theorem t54isS : env.isStruct 54 = true := by kernel_rfl
theorem t54f0 : env.fld 54 0 = some (0, 3) := by kernel_rfl
theorem t54f1 : env.fld 54 1 = some (1, 3) := by kernel_rfl
theorem t54f2 : env.fld 54 2 = some (2, 24) := by kernel_rfl
theorem t54ty : env.ty 54 = none := by kernel_rfl
theorem t54agg : env.agg 54 = some true := by kernel_rfl
theorem t54size : env.size 54 = some 5 := by kernel_rfl
theorem t54inf : env.inf 54 = some (5, 56, (.agg #[(.int .i64 0), (.int .i64 0), (.int .i64 0), (.int .i64 0), (.slice none 0 0)])) := by kernel_rfl
theorem t55isS : env.isStruct 55 = true := by kernel_rfl
theorem t55f0 : env.fld 55 0 = some (0, 3) := by kernel_rfl
theorem t55f1 : env.fld 55 1 = some (1, 3) := by kernel_rfl
theorem t55f2 : env.fld 55 2 = some (2, 4) := by kernel_rfl
theorem t55f3 : env.fld 55 3 = some (3, 24) := by kernel_rfl
theorem t55ty : env.ty 55 = none := by kernel_rfl
theorem t55agg : env.agg 55 = some true := by kernel_rfl
theorem t55size : env.size 55 = some 6 := by kernel_rfl
theorem t55inf : env.inf 55 = some (6, 64, (.agg #[(.int .i64 0), (.int .i64 0), (.bool false), (.int .i64 0), (.int .i64 0), (.slice none 0 0)])) := by kernel_rfl
theorem t56isS : env.isStruct 56 = true := by kernel_rfl
theorem t56f0 : env.fld 56 0 = some (0, 3) := by kernel_rfl
theorem t56f1 : env.fld 56 1 = some (1, 3) := by kernel_rfl
theorem t56f2 : env.fld 56 2 = some (2, 4) := by kernel_rfl
theorem t56f3 : env.fld 56 3 = some (3, 24) := by kernel_rfl
theorem t56ty : env.ty 56 = none := by kernel_rfl
theorem t56agg : env.agg 56 = some true := by kernel_rfl
theorem t56size : env.size 56 = some 6 := by kernel_rfl
theorem t56inf : env.inf 56 = some (6, 64, (.agg #[(.int .i64 0), (.int .i64 0), (.bool false), (.int .i64 0), (.int .i64 0), (.slice none 0 0)])) := by kernel_rfl
theorem t57isS : env.isStruct 57 = true := by kernel_rfl
theorem t57f0 : env.fld 57 0 = some (0, 3) := by kernel_rfl
theorem t57f1 : env.fld 57 1 = some (1, 3) := by kernel_rfl
theorem t57seq : env.seq 57 = some 2 := by kernel_rfl
theorem t57ty : env.ty 57 = none := by kernel_rfl
theorem t57agg : env.agg 57 = some true := by kernel_rfl
theorem t57size : env.size 57 = some 2 := by kernel_rfl
theorem t57inf : env.inf 57 = some (2, 16, (.agg #[(.int .i64 0), (.int .i64 0)])) := by kernel_rfl
theorem t58isS : env.isStruct 58 = true := by kernel_rfl
theorem t58f0 : env.fld 58 0 = some (0, 3) := by kernel_rfl
theorem t58f1 : env.fld 58 1 = some (1, 3) := by kernel_rfl
theorem t58seq : env.seq 58 = some 2 := by kernel_rfl
theorem t58ty : env.ty 58 = none := by kernel_rfl
theorem t58agg : env.agg 58 = some true := by kernel_rfl
theorem t58size : env.size 58 = some 2 := by kernel_rfl
theorem t58inf : env.inf 58 = some (2, 16, (.agg #[(.int .i64 0), (.int .i64 0)])) := by kernel_rfl
theorem t67und : env.und 67 = some (.pointer 42) := by kernel_rfl
theorem t67ptr : env.ptr 67 = true := by kernel_rfl
theorem t67ty : env.ty 67 = none := by kernel_rfl
theorem t67agg : env.agg 67 = some false := by kernel_rfl
theorem t67size : env.size 67 = some 1 := by kernel_rfl
theorem t67inf : env.inf 67 = some (1, 8, (.pointer none)) := by kernel_rfl
theorem t69und : env.und 69 = some (.slice 74) := by kernel_rfl
theorem t69noInt : env.noInt 69 = true := by kernel_rfl
theorem t69elt : env.elt 69 = some 74 := by kernel_rfl
theorem t69ty : env.ty 69 = none := by kernel_rfl
theorem t69agg : env.agg 69 = some false := by kernel_rfl
theorem t69size : env.size 69 = some 1 := by kernel_rfl
theorem t69inf : env.inf 69 = some (1, 24, (.slice none 0 0)) := by kernel_rfl
theorem t72ikey : env.ikey 72 = some 4 := by kernel_rfl
theorem t4zer : env.zer 4 = some (.bool false) := by kernel_rfl
theorem t72ty : env.ty 72 = none := by kernel_rfl
theorem t72agg : env.agg 72 = some false := by kernel_rfl
theorem t72size : env.size 72 = some 1 := by kernel_rfl
theorem t72inf : env.inf 72 = some (1, 8, (.map none)) := by kernel_rfl
theorem t73isS : env.isStruct 73 = true := by kernel_rfl
theorem t73f0 : env.fld 73 0 = some (0, 3) := by kernel_rfl
theorem t73f1 : env.fld 73 1 = some (1, 3) := by kernel_rfl
theorem t73f2 : env.fld 73 2 = some (2, 32) := by kernel_rfl
theorem t73ty : env.ty 73 = none := by kernel_rfl
theorem t73agg : env.agg 73 = some true := by kernel_rfl
theorem t73size : env.size 73 = some 14 := by kernel_rfl
theorem t73inf : env.inf 73 = some (14, 208, (.agg #[(.int .i64 0), (.int .i64 0), (.int .i64 0), (.int .i64 0), (.int .i64 0), (.int .i64 0), (.int .i64 0), (.int .i64 0), (.slice none 0 0), (.slice none 0 0), (.slice none 0 0), (.slice none 0 0), (.slice none 0 0), (.slice none 0 0)])) := by kernel_rfl
theorem t74isS : env.isStruct 74 = true := by kernel_rfl
theorem t74f0 : env.fld 74 0 = some (0, 3) := by kernel_rfl
theorem t74f1 : env.fld 74 1 = some (1, 3) := by kernel_rfl
theorem t74f2 : env.fld 74 2 = some (2, 32) := by kernel_rfl
theorem t74ty : env.ty 74 = none := by kernel_rfl
theorem t74agg : env.agg 74 = some true := by kernel_rfl
theorem t74size : env.size 74 = some 14 := by kernel_rfl
theorem t74inf : env.inf 74 = some (14, 208, (.agg #[(.int .i64 0), (.int .i64 0), (.int .i64 0), (.int .i64 0), (.int .i64 0), (.int .i64 0), (.int .i64 0), (.int .i64 0), (.slice none 0 0), (.slice none 0 0), (.slice none 0 0), (.slice none 0 0), (.slice none 0 0), (.slice none 0 0)])) := by kernel_rfl
theorem t96und : env.und 96 = some (.slice 97) := by kernel_rfl
theorem t96noInt : env.noInt 96 = true := by kernel_rfl
theorem t96elt : env.elt 96 = some 97 := by kernel_rfl
theorem t96ty : env.ty 96 = none := by kernel_rfl
theorem t96agg : env.agg 96 = some false := by kernel_rfl
theorem t96size : env.size 96 = some 1 := by kernel_rfl
theorem t96inf : env.inf 96 = some (1, 24, (.slice none 0 0)) := by kernel_rfl
theorem t97isS : env.isStruct 97 = true := by kernel_rfl
theorem t97f0 : env.fld 97 0 = some (0, 3) := by kernel_rfl
theorem t97f1 : env.fld 97 1 = some (1, 3) := by kernel_rfl
theorem t97seq : env.seq 97 = some 2 := by kernel_rfl
theorem t97ty : env.ty 97 = none := by kernel_rfl
theorem t97agg : env.agg 97 = some true := by kernel_rfl
theorem t97size : env.size 97 = some 2 := by kernel_rfl
theorem t97inf : env.inf 97 = some (2, 16, (.agg #[(.int .i64 0), (.int .i64 0)])) := by kernel_rfl
theorem t100und : env.und 100 = some (.slice 103) := by kernel_rfl
theorem t100noInt : env.noInt 100 = true := by kernel_rfl
theorem t100elt : env.elt 100 = some 103 := by kernel_rfl
theorem t100ty : env.ty 100 = none := by kernel_rfl
theorem t100agg : env.agg 100 = some false := by kernel_rfl
theorem t100size : env.size 100 = some 1 := by kernel_rfl
theorem t100inf : env.inf 100 = some (1, 24, (.slice none 0 0)) := by kernel_rfl
theorem t102isS : env.isStruct 102 = true := by kernel_rfl
theorem t102f0 : env.fld 102 0 = some (0, 3) := by kernel_rfl
theorem t102f1 : env.fld 102 1 = some (1, 3) := by kernel_rfl
theorem t102seq : env.seq 102 = some 2 := by kernel_rfl
theorem t102ty : env.ty 102 = none := by kernel_rfl
theorem t102agg : env.agg 102 = some true := by kernel_rfl
theorem t102size : env.size 102 = some 2 := by kernel_rfl
theorem t102inf : env.inf 102 = some (2, 16, (.agg #[(.int .i64 0), (.int .i64 0)])) := by kernel_rfl
theorem t103isS : env.isStruct 103 = true := by kernel_rfl
theorem t103f0 : env.fld 103 0 = some (0, 3) := by kernel_rfl
theorem t103f1 : env.fld 103 1 = some (1, 3) := by kernel_rfl
theorem t103seq : env.seq 103 = some 2 := by kernel_rfl
theorem t103ty : env.ty 103 = none := by kernel_rfl
theorem t103agg : env.agg 103 = some true := by kernel_rfl
theorem t103size : env.size 103 = some 2 := by kernel_rfl
theorem t103inf : env.inf 103 = some (2, 16, (.agg #[(.int .i64 0), (.int .i64 0)])) := by kernel_rfl
theorem t106und : env.und 106 = some (.slice 4) := by kernel_rfl
theorem t106noInt : env.noInt 106 = true := by kernel_rfl
theorem t106elt : env.elt 106 = some 4 := by kernel_rfl
theorem t106ty : env.ty 106 = none := by kernel_rfl
theorem t106agg : env.agg 106 = some false := by kernel_rfl
theorem t106size : env.size 106 = some 1 := by kernel_rfl
theorem t106inf : env.inf 106 = some (1, 24, (.slice none 0 0)) := by kernel_rfl
theorem t113isS : env.isStruct 113 = true := by kernel_rfl
theorem t113f0 : env.fld 113 0 = some (0, 9) := by kernel_rfl
theorem t113f1 : env.fld 113 1 = some (1, 3) := by kernel_rfl
theorem t113f2 : env.fld 113 2 = some (2, 3) := by kernel_rfl
theorem t113f3 : env.fld 113 3 = some (3, 3) := by kernel_rfl
theorem t113ty : env.ty 113 = none := by kernel_rfl
theorem t113agg : env.agg 113 = some true := by kernel_rfl
theorem t113size : env.size 113 = some 4 := by kernel_rfl
theorem t113inf : env.inf 113 = some (4, 40, (.agg #[(.string ⟨#[]⟩), (.int .i64 0), (.int .i64 0), (.int .i64 0)])) := by kernel_rfl
theorem t114isS : env.isStruct 114 = true := by kernel_rfl
theorem t114f0 : env.fld 114 0 = some (0, 9) := by kernel_rfl
theorem t114f1 : env.fld 114 1 = some (1, 3) := by kernel_rfl
theorem t114f2 : env.fld 114 2 = some (2, 3) := by kernel_rfl
theorem t114f3 : env.fld 114 3 = some (3, 3) := by kernel_rfl
theorem t114ty : env.ty 114 = none := by kernel_rfl
theorem t114agg : env.agg 114 = some true := by kernel_rfl
theorem t114size : env.size 114 = some 4 := by kernel_rfl
theorem t114inf : env.inf 114 = some (4, 40, (.agg #[(.string ⟨#[]⟩), (.int .i64 0), (.int .i64 0), (.int .i64 0)])) := by kernel_rfl
theorem t115und : env.und 115 = some (.array 15 114) := by kernel_rfl
theorem t115arr : env.arr 115 = some (15, 114) := by kernel_rfl
theorem t115ty : env.ty 115 = none := by kernel_rfl
theorem t115agg : env.agg 115 = some true := by kernel_rfl
theorem t115size : env.size 115 = some 60 := by kernel_rfl
theorem t115inf : env.inf 115 = some (60, 600, (.agg #[(.string ⟨#[]⟩), (.int .i64 0), (.int .i64 0), (.int .i64 0), (.string ⟨#[]⟩), (.int .i64 0), (.int .i64 0), (.int .i64 0), (.string ⟨#[]⟩), (.int .i64 0), (.int .i64 0), (.int .i64 0), (.string ⟨#[]⟩), (.int .i64 0), (.int .i64 0), (.int .i64 0), (.string ⟨#[]⟩), (.int .i64 0), (.int .i64 0), (.int .i64 0), (.string ⟨#[]⟩), (.int .i64 0), (.int .i64 0), (.int .i64 0), (.string ⟨#[]⟩), (.int .i64 0), (.int .i64 0), (.int .i64 0), (.string ⟨#[]⟩), (.int .i64 0), (.int .i64 0), (.int .i64 0), (.string ⟨#[]⟩), (.int .i64 0), (.int .i64 0), (.int .i64 0), (.string ⟨#[]⟩), (.int .i64 0), (.int .i64 0), (.int .i64 0), (.string ⟨#[]⟩), (.int .i64 0), (.int .i64 0), (.int .i64 0), (.string ⟨#[]⟩), (.int .i64 0), (.int .i64 0), (.int .i64 0), (.string ⟨#[]⟩), (.int .i64 0), (.int .i64 0), (.int .i64 0), (.string ⟨#[]⟩), (.int .i64 0), (.int .i64 0), (.int .i64 0), (.string ⟨#[]⟩), (.int .i64 0), (.int .i64 0), (.int .i64 0)])) := by kernel_rfl
theorem t133und : env.und 133 = some (.int .u32) := by kernel_rfl
theorem t133kind : env.kind 133 = some .u32 := by kernel_rfl
theorem t133ty : env.ty 133 = none := by kernel_rfl
theorem t133agg : env.agg 133 = some false := by kernel_rfl
theorem t133size : env.size 133 = some 1 := by kernel_rfl
theorem t133inf : env.inf 133 = some (1, 4, (.int .u32 0)) := by kernel_rfl
theorem t137und : env.und 137 = some (.pointer 5) := by kernel_rfl
theorem t137ptr : env.ptr 137 = true := by kernel_rfl
theorem t137ty : env.ty 137 = none := by kernel_rfl
theorem t137agg : env.agg 137 = some false := by kernel_rfl
theorem t137size : env.size 137 = some 1 := by kernel_rfl
theorem t137inf : env.inf 137 = some (1, 8, (.pointer none)) := by kernel_rfl
attribute [go_sem] t2und t2kind t2ty t2agg t2size t2inf t3und t3kind t3ty t3agg t3size t3inf t4und t4bln t4ty t4agg t4size t4inf t5und t5kind t5ty t5agg t5size t5inf t9und t9str t9noInt t9ty t9agg t9size t9inf t12und t12kind t12ty t12agg t12size t12inf t13isS t13f0 t13f1 t13ty t13agg t13size t13inf t21und t21kind t21ty t21agg t21size t21inf t22und t22noInt t22elt t22ty t22agg t22size t22inf t23isS t23f0 t23f1 t23f2 t23ty t23agg t23size t23inf t24isS t24f0 t24f1 t24f2 t24ty t24agg t24size t24inf t25und t25noInt t25elt t25ty t25agg t25size t25inf t26und t26noInt t26elt t26ty t26agg t26size t26inf t27und t27noInt t27elt t27ty t27agg t27size t27inf t28und t28noInt t28elt t28ty t28agg t28size t28inf t29isS t29f0 t29f1 t29ty t29agg t29size t29inf t30isS t30f0 t30f1 t30ty t30agg t30size t30inf t31isS t31f0 t31f1 t31f2 t31f3 t31f4 t31f5 t31f6 t31f7 t31f8 t31ty t31agg t31size t31inf t32isS t32f0 t32f1 t32f2 t32f3 t32f4 t32f5 t32f6 t32f7 t32f8 t32ty t32agg t32size t32inf t33und t33noInt t33elt t33ty t33agg t33size t33inf t35und t35ptr t35ty t35agg t35size t35inf t36isS t36f0 t36seq t36ty t36agg t36size t36inf t37isS t37f0 t37seq t37ty t37agg t37size t37inf t39und t39arr t39ty t39agg t39size t39inf t40und t40arr t40ty t40agg t40size t40inf t41isS t41f0 t41f1 t41seq t41ty t41agg t41size t41inf t42isS t42f0 t42f1 t42seq t42ty t42agg t42size t42inf t43und t43kind t43ty t43agg t43size t43inf t50und t50arr t50ty t50agg t50size t50inf t53isS t53f0 t53f1 t53f2 t53ty t53agg t53size t53inf t54isS t54f0 t54f1 t54f2 t54ty t54agg t54size t54inf t55isS t55f0 t55f1 t55f2 t55f3 t55ty t55agg t55size t55inf t56isS t56f0 t56f1 t56f2 t56f3 t56ty t56agg t56size t56inf t57isS t57f0 t57f1 t57seq t57ty t57agg t57size t57inf t58isS t58f0 t58f1 t58seq t58ty t58agg t58size t58inf t67und t67ptr t67ty t67agg t67size t67inf t69und t69noInt t69elt t69ty t69agg t69size t69inf t72ikey t4zer t72ty t72agg t72size t72inf t73isS t73f0 t73f1 t73f2 t73ty t73agg t73size t73inf t74isS t74f0 t74f1 t74f2 t74ty t74agg t74size t74inf t96und t96noInt t96elt t96ty t96agg t96size t96inf t97isS t97f0 t97f1 t97seq t97ty t97agg t97size t97inf t100und t100noInt t100elt t100ty t100agg t100size t100inf t102isS t102f0 t102f1 t102seq t102ty t102agg t102size t102inf t103isS t103f0 t103f1 t103seq t103ty t103agg t103size t103inf t106und t106noInt t106elt t106ty t106agg t106size t106inf t113isS t113f0 t113f1 t113f2 t113f3 t113ty t113agg t113size t113inf t114isS t114f0 t114f1 t114f2 t114f3 t114ty t114agg t114size t114inf t115und t115arr t115ty t115agg t115size t115inf t133und t133kind t133ty t133agg t133size t133inf t137und t137ptr t137ty t137agg t137size t137inf
end Go.Eng
open Go Go.Proofs
namespace Go.Eng
set_option linter.unusedSimpArgs false
set_option linter.unusedVariables false
set_option maxRecDepth 10000
set_option maxHeartbeats 4000000
mutual
def largeT : T → Int → Int → Bool × Int
  | .mk _ _ k, r, d => if r - 1 < 0 ∨ d > 30 ∨ k.length > 20 then (true, r - 1) else largeTs k (r - 1) (d + 1)
def largeTs : List T → Int → Int → Bool × Int
  | [], r, _ => (false, r)
  | t :: l, r, d => if (largeT t r d).1 = true then (true, (largeT t r d).2) else largeTs l (largeT t r d).2 d
end
theorem largeT_eq (t : T) (r d : Int) : largeT t r d = if r - 1 < 0 ∨ d > 30 ∨ t.kids.length > 20 then (true, r - 1) else largeTs t.kids (r - 1) (d + 1) := by
  cases t with | mk o n k => rw [largeT]; rfl
mutual
theorem largeT_le : ∀ (t : T) (r d : Int), (largeT t r d).2 ≤ r - 1 ∧ (r - (largeT t r d).2 ≤ 1 + max r 0) ∧ ((largeT t r d).1 = false → 0 ≤ (largeT t r d).2 ∧ (t.size : Int) ≤ r - (largeT t r d).2)
  | .mk o n k, r, d => by
    rw [largeT]
    split
    · refine ⟨by simp, by simp only; omega, by simp⟩
    · have := largeTs_le k (r - 1) (d + 1)
      refine ⟨by omega, by omega, fun h => ?_⟩
      have h2 := this.2.2 h
      simp only [T.size]
      omega
theorem largeTs_le : ∀ (l : List T) (r d : Int), (largeTs l r d).2 ≤ r ∧ (r - (largeTs l r d).2 ≤ 1 + max r 0) ∧ ((largeTs l r d).1 = false → (0 ≤ r → 0 ≤ (largeTs l r d).2) ∧ (T.sizes l : Int) ≤ r - (largeTs l r d).2)
  | [], r, d => by simp [largeTs, T.sizes]; omega
  | t :: l, r, d => by
    rw [largeTs]
    have h1 := largeT_le t r d
    split
    · refine ⟨by simp only; omega, by simp only; omega, by simp⟩
    · rename_i hf
      have h2 := largeTs_le l (largeT t r d).2 d
      have h3 := h1.2.2 (by simpa using hf)
      refine ⟨by omega, by omega, fun h => ?_⟩
      have h4 := h2.2.2 h
      simp only [T.sizes]
      omega
end

theorem lt_ok (t : T) (r d : Int) (hr : -4611686018427387904 < r) (hr2 : r < 4611686018427387904) (hd : 0 ≤ d) (hd2 : d ≤ 41) : AFn env 11 [t.a, P0, aI d] [some (.box [.d (dI r)])] (aB (largeT t r d).1) [some (.box [.d (dI (largeT t r d).2)])] := by
  generalize hn : t.size = n
  induction n using Nat.strongRecOn generalizing t r d with
  | _ n ih0 =>
    have ih : ∀ k r d, k.size < t.size → -4611686018427387904 < r → r < 4611686018427387904 → 0 ≤ d → d ≤ 41 → AFn env 11 [k.a, P0, aI d] [some (.box [.d (dI r)])] (aB (largeT k r d).1) [some (.box [.d (dI (largeT k r d).2)])] := fun k r d h h2 h3 h4 h5 => ih0 k.size (by omega) k r d h2 h3 h4 h5 rfl
    refine afn_body Tryd.func11 rfl (by decide) ?_
    simp only [Tryd.ntmps11, Tryd.results11, List.length_cons, List.length_nil, List.cons_append, List.nil_append, Nat.reduceAdd, Nat.reduceSub, List.replicate]
    refine awp_seq ?_
    refine awp_region ?_
    refine zT ?_
    repeat' first
    | with_reducible refine awp_seq ?_
    | ((with_reducible refine awp_region ?_); refine zS ?_)
    | ((with_reducible refine Gd_nd ?_ ?_) <;> intro hb hb2 <;> first | contradiction | (exfalso; omega) | (refine zH hb2 ?_; try clear hb2))
    | ((with_reducible refine AWP_c ?_); refine zcdT ?_)
    | ((with_reducible refine AWP_c ?_); refine zcdD ?_ ?_ <;> intro hb hb2 <;> first | contradiction | (exfalso; omega) | ((try refine zH hb2 ?_); try clear hb2))
    | ((with_reducible refine awp_ret ?_); refine fin_q ?_ ?_)
    | ((with_reducible refine awp_skip ?_); refine zS ?_)
    · rw [largeT_eq, if_pos (by omega)]
    · rw [largeT_eq, if_pos (by omega)]
    rotate_left
    · rw [largeT_eq, if_pos (by omega)]
    · rw [largeT_eq, if_pos (by omega)]
    · rw [largeT_eq, if_pos (by omega)]
    · rw [largeT_eq, if_pos (by omega)]
    refine awp_block ?_
    refine awp_loopT (fun s : Nat × Int => s.1 ≤ t.kids.length ∧ 0 ≤ s.2 ∧ s.2 ≤ r - 1 ∧ largeT t r d = largeTs (t.kids.drop s.1) s.2 (d + 1)) (fun s => t.kids.length - s.1) (fun s => [(35, aI s.1)])
      (fun s => [some (.box [.d (dI s.2)]), some (.box [.d (dI t.op), .d (dI t.n), .d (.fz (t.kids.map T.row))])]) (0, r - 1) ⟨by simp, by simp only; omega, by simp only; omega, by rw [largeT_eq, if_neg (by omega)]; rfl⟩ (by exact zwl) ?_
    rintro ⟨i, r1⟩ ⟨h1, h2, h3, h4⟩
    simp only at h1 h2 h3 h4
    refine zT ?_
    repeat' first
    | with_reducible refine awp_seq ?_
    | ((with_reducible refine awp_region ?_); refine zS ?_)
    | ((with_reducible refine AWP_c ?_); refine zcdD ?_ ?_ <;> intro hb hb2 <;> first | contradiction | (exfalso; omega) | ((try refine zH hb2 ?_); try clear hb2))
    | ((with_reducible refine AWP_c ?_); refine zcdB ?_ ?_ <;> intro hb <;> first | contradiction | (try refine zH hb ?_))
    | ((with_reducible refine awp_ret ?_); refine fin_q ?_ ?_)
    | ((with_reducible refine awp_skip ?_); refine zS ?_)
    | with_reducible refine awp_block ?_
    | ((with_reducible refine awp_exit ?_); refine zS ?_)
    | ((with_reducible refine CallK_id ?_); refine zcT [0] ?_; refine ⟨_, _, by first | exact ih (gt t.kids i) _ _ (T.size_lt (gt_mem (by omega))) (by omega) (by omega) (by omega) (by omega) | fail, ?_⟩; try refine zS ?_)
    all_goals first
      | (have hi : i = t.kids.length := by omega
         subst hi
         rw [h4, List.drop_length, largeTs])
      | (have hi : i < t.kids.length := by omega
         have hl := ‹(largeT (gt t.kids i) r1 (d + 1)).1 = true›
         rw [h4, drop_gt hi, largeTs, if_pos hl])
      | (have hi : i < t.kids.length := by omega
         have hl := ‹(largeT (gt t.kids i) r1 (d + 1)).1 = false›
         have hq := largeT_le (gt t.kids i) r1 (d + 1)
         have hq2 := hq.2.2 hl
         exact ⟨(i + 1, (largeT (gt t.kids i) r1 (d + 1)).2), ⟨by simp only; omega, by simp only; omega, by simp only; omega, by rw [h4, drop_gt hi, largeTs, if_neg (by simp [hl])]⟩, by simp only; omega, (by exact zwc 2)⟩)
      | trace_state
def thenL (p : Bool × Int) (f : Int → Bool × Int) : Bool × Int := if p.1 = true then (true, p.2) else f p.2
theorem thenL_t {p : Bool × Int} {f : Int → Bool × Int} (h : p.1 = true) : thenL p f = (true, p.2) := if_pos h
theorem thenL_f {p : Bool × Int} {f : Int → Bool × Int} (h : p.1 = false) : thenL p f = f p.2 := if_neg (by simp [h])
mutual
def largeB : B → Int → Int → Bool × Int
  | .mk _ _ _ _ t c ks l ns fs, r, d =>
    if r - 1 < 0 ∨ d > 30 ∨ ks.length > 100 ∨ l.length > 60 ∨ c.length > 100 ∨ ns.length > 30 ∨ fs.length > 50 then (true, r - 1) else
    thenL (largeT t (r - 1) 1) fun r => thenL (largeTs c r 1) fun r => thenL (largeTs (ns.map Nd.t) r 1) fun r => thenL (largeTs (fs.map Fl.t) r 1) fun r => largeBs ks r (d + 1)
def largeBs : List B → Int → Int → Bool × Int
  | [], r, _ => (false, r)
  | t :: l, r, d => thenL (largeB t r d) fun r => largeBs l r d
end
theorem largeB_eq (b : B) (r d : Int) : largeB b r d = if r - 1 < 0 ∨ d > 30 ∨ b.kids.length > 100 ∨ b.links.length > 60 ∨ b.conds.length > 100 ∨ b.nodes.length > 30 ∨ b.flows.length > 50 then (true, r - 1) else
    thenL (largeT b.t (r - 1) 1) fun r => thenL (largeTs b.conds r 1) fun r => thenL (largeTs (b.nodes.map Nd.t) r 1) fun r => thenL (largeTs (b.flows.map Fl.t) r 1) fun r => largeBs b.kids r (d + 1) := by
  cases b with | mk => rw [largeB]; rfl
theorem sizes_nd : ∀ l : List Nd, T.sizes (l.map Nd.t) = Nd.sizes l
  | [] => rfl
  | d :: l => by simp only [List.map_cons, T.sizes, Nd.sizes, sizes_nd l]
theorem sizes_fl : ∀ l : List Fl, T.sizes (l.map Fl.t) = Fl.sizes l
  | [] => rfl
  | d :: l => by simp only [List.map_cons, T.sizes, Fl.sizes, sizes_fl l]
mutual
theorem largeB_le : ∀ (b : B) (r d : Int), (largeB b r d).2 ≤ r - 1 ∧ (r - (largeB b r d).2 ≤ 1 + max r 0) ∧ ((largeB b r d).1 = false → 0 ≤ (largeB b r d).2 ∧ (b.size : Int) ≤ 61 * (r - (largeB b r d).2))
  | .mk k n x y t c ks l ns fs, r, d => by
    rw [largeB]
    have h1 := largeT_le t (r - 1) 1
    have h2 := largeTs_le c (largeT t (r - 1) 1).2 1
    have h3 := largeTs_le (ns.map Nd.t) (largeTs c (largeT t (r - 1) 1).2 1).2 1
    have h4 := largeTs_le (fs.map Fl.t) (largeTs (ns.map Nd.t) (largeTs c (largeT t (r - 1) 1).2 1).2 1).2 1
    have h5 := largeBs_le ks (largeTs (fs.map Fl.t) (largeTs (ns.map Nd.t) (largeTs c (largeT t (r - 1) 1).2 1).2 1).2 1).2 (d + 1)
    rw [sizes_nd] at h3
    rw [sizes_fl] at h4
    by_cases g0 : r - 1 < 0 ∨ d > 30 ∨ ks.length > 100 ∨ l.length > 60 ∨ c.length > 100 ∨ ns.length > 30 ∨ fs.length > 50
    · rw [if_pos g0]
      refine ⟨by simp, by simp only; omega, by simp⟩
    rw [if_neg g0]
    rcases Bool.eq_false_or_eq_true (largeT t (r - 1) 1).1 with g1 | g1
    · rw [thenL_t g1]; refine ⟨by simp only; omega, by simp only; omega, by simp⟩
    rw [thenL_f g1]
    have k1 := h1.2.2 g1
    rcases Bool.eq_false_or_eq_true (largeTs c (largeT t (r - 1) 1).2 1).1 with g2 | g2
    · rw [thenL_t g2]; refine ⟨by simp only; omega, by simp only; omega, by simp⟩
    rw [thenL_f g2]
    have k2 := h2.2.2 g2
    rcases Bool.eq_false_or_eq_true (largeTs (ns.map Nd.t) (largeTs c (largeT t (r - 1) 1).2 1).2 1).1 with g3 | g3
    · rw [thenL_t g3]; refine ⟨by simp only; omega, by simp only; omega, by simp⟩
    rw [thenL_f g3]
    have k3 := h3.2.2 g3
    rcases Bool.eq_false_or_eq_true (largeTs (fs.map Fl.t) (largeTs (ns.map Nd.t) (largeTs c (largeT t (r - 1) 1).2 1).2 1).2 1).1 with g4 | g4
    · rw [thenL_t g4]; refine ⟨by simp only; omega, by simp only; omega, by simp⟩
    rw [thenL_f g4]
    have k4 := h4.2.2 g4
    refine ⟨by omega, by omega, fun h => ?_⟩
    have k5 := h5.2.2 h
    simp only [B.size]
    omega
theorem largeBs_le : ∀ (l : List B) (r d : Int), (largeBs l r d).2 ≤ r ∧ (r - (largeBs l r d).2 ≤ 1 + max r 0) ∧ ((largeBs l r d).1 = false → (0 ≤ r → 0 ≤ (largeBs l r d).2) ∧ (B.sizes l : Int) ≤ 61 * (r - (largeBs l r d).2))
  | [], r, d => by simp [largeBs, B.sizes]; omega
  | t :: l, r, d => by
    rw [largeBs]
    have h1 := largeB_le t r d
    rcases Bool.eq_false_or_eq_true (largeB t r d).1 with g1 | g1
    · rw [thenL_t g1]; refine ⟨by simp only; omega, by simp only; omega, by simp⟩
    rw [thenL_f g1]
    have h2 := largeBs_le l (largeB t r d).2 d
    have h3 := h1.2.2 g1
    refine ⟨by omega, by omega, fun h => ?_⟩
    have h4 := h2.2.2 h
    simp only [B.sizes]
    omega
end
end Go.Eng
open Go Go.Proofs
namespace Go.Eng
set_option linter.unusedSimpArgs false
set_option linter.unusedVariables false
set_option maxRecDepth 10000
set_option maxHeartbeats 4000000

def K4 (b : B) (d : Int) : Int → Bool × Int := fun r => largeBs b.kids r (d + 1)
def K3 (b : B) (d : Int) : Int → Bool × Int := fun r => thenL (largeTs (b.flows.map Fl.t) r 1) (K4 b d)
def K2 (b : B) (d : Int) : Int → Bool × Int := fun r => thenL (largeTs (b.nodes.map Nd.t) r 1) (K3 b d)
def K1 (b : B) (d : Int) : Int → Bool × Int := fun r => thenL (largeTs b.conds r 1) (K2 b d)
theorem largeB_k (b : B) (r d : Int) : largeB b r d = if r - 1 < 0 ∨ d > 30 ∨ b.kids.length > 100 ∨ b.links.length > 60 ∨ b.conds.length > 100 ∨ b.nodes.length > 30 ∨ b.flows.length > 50 then (true, r - 1) else
    thenL (largeT b.t (r - 1) 1) (K1 b d) := largeB_eq b r d
theorem lTs_t {t : T} {l : List T} {r d : Int} {f : Int → Bool × Int} (h : (largeT t r d).1 = true) : thenL (largeTs (t :: l) r d) f = (true, (largeT t r d).2) := by rw [largeTs, if_pos h, thenL_t rfl]
theorem lTs_f {t : T} {l : List T} {r d : Int} {f : Int → Bool × Int} (h : (largeT t r d).1 = false) : thenL (largeTs (t :: l) r d) f = thenL (largeTs l (largeT t r d).2 d) f := by rw [largeTs, if_neg (by simp [h])]
theorem lTs_n {r d : Int} {f : Int → Bool × Int} : thenL (largeTs [] r d) f = f r := by rw [largeTs, thenL_f rfl]
set_option maxHeartbeats 40000000
theorem largeB_ok0 (b : B) (r d : Int) (hr : -4611686018427387904 < r) (hr2 : r < 4611686018427387904) (hd : 0 ≤ d) (hd2 : d ≤ 41) 
   (ih : ∀ k r d, k.size < b.size → -4611686018427387904 < r → r < 4611686018427387904 → 0 ≤ d → d ≤ 41 → AFn env 5 [k.a, P0, aI d] [some (.box [.d (dI r)])] (aB (largeB k r d).1) [some (.box [.d (dI (largeB k r d).2)])]) :
    AFn env 5 [b.a, P0, aI d] [some (.box [.d (dI r)])] (aB (largeB b r d).1) [some (.box [.d (dI (largeB b r d).2)])] := by
    refine afn_body Tryd.func5 rfl (by decide) ?_
    simp only [Tryd.ntmps5, Tryd.results5, List.length_cons, List.length_nil, List.cons_append, List.nil_append, Nat.reduceAdd, Nat.reduceSub, List.replicate]
    refine awp_seq ?_
    refine awp_region ?_
    refine zT ?_
    repeat' first
    | with_reducible refine awp_seq ?_
    | ((with_reducible refine awp_region ?_); refine zS ?_)
    | ((with_reducible refine Gd_nd ?_ ?_) <;> intro hb hb2 <;> first | contradiction | (exfalso; omega) | (refine zH hb2 ?_; try clear hb2))
    | ((with_reducible refine AWP_c ?_); refine zcdT ?_)
    | ((with_reducible refine AWP_c ?_); refine zcdB ?_ ?_ <;> intro hb <;> first | contradiction | (try refine zH hb ?_))
    | ((with_reducible refine awp_ret ?_); refine fin_q ?_ ?_)
    | ((with_reducible refine awp_skip ?_); refine zS ?_)
    | ((with_reducible refine CallK_id ?_); refine zcT [0] ?_; refine ⟨_, _, by first | exact lt_ok b.t (r - 1) 1 (by omega) (by omega) (by omega) (by omega) | fail, ?_⟩; try refine zS ?_)
    all_goals first
      | (rw [largeB_k, if_pos (by omega)]; done)
      | (rw [largeB_k, if_neg (by omega), thenL_t ‹_ = true›]; done)
      | skip
    have h0 : largeB b r d = K1 b d (largeT b.t (r - 1) 1).2 := by rw [largeB_k, if_neg (by omega), thenL_f ‹_ = false›]
    have hq := largeT_le b.t (r - 1) 1
    have hq2 := hq.2.2 ‹_ = false›
    refine awp_block ?_
    refine awp_loopT (fun s : Nat × Int => s.1 ≤ b.conds.length ∧ 0 ≤ s.2 ∧ s.2 ≤ r - 1 ∧ largeB b r d = thenL (largeTs (b.conds.drop s.1) s.2 1) (K2 b d)) (fun s => b.conds.length - s.1) (fun s => [(73, aI s.1)])
      (fun s => [some (.box [.d (dI s.2)]), some (.box b.bs)]) (0, (largeT b.t (r - 1) 1).2) ⟨by simp, by simp only; omega, by simp only; omega, by rw [h0]; rfl⟩ (wk_le (by simp only [go_sem, Bool.not_not, List.mem_singleton, forall_eq, ↓reduceIte, if_pos, rowsAt_map, wrap64, wrapu8, List.getElem?_cons_zero, List.getElem?_cons_succ, Int.reduceToNat, Nat.reduceAdd, Nat.reduceBEq, Bool.or_false, Bool.false_or, Bool.true_or, Nat.reduceSub, Nat.reduceMul, Int.reduceAdd, Int.reduceEq, Int.reduceLT, Int.reduceLE, Int.reduceNeg, Nat.reduceLT, Nat.reduceLeDiff, Nat.reduceEqDiff, B.bs]; simp) (by simp only [go_sem, Bool.not_not, List.mem_singleton, forall_eq, ↓reduceIte, if_pos, rowsAt_map, wrap64, wrapu8, List.getElem?_cons_zero, List.getElem?_cons_succ, Int.reduceToNat, Nat.reduceAdd, Nat.reduceBEq, Bool.or_false, Bool.false_or, Bool.true_or, Nat.reduceSub, Nat.reduceMul, Int.reduceAdd, Int.reduceEq, Int.reduceLT, Int.reduceLE, Int.reduceNeg, Nat.reduceLT, Nat.reduceLeDiff, Nat.reduceEqDiff, B.bs])) ?_
    rintro ⟨i, r1⟩ ⟨h1, h2, h3, h4⟩
    simp only at h1 h2 h3 h4
    clear hq hq2 h0
    simp only [go_sem, Bool.not_not, List.mem_singleton, forall_eq, ↓reduceIte, if_pos, rowsAt_map, wrap64, wrapu8, List.getElem?_cons_zero, List.getElem?_cons_succ, Int.reduceToNat, Nat.reduceAdd, Nat.reduceBEq, Bool.or_false, Bool.false_or, Bool.true_or, Nat.reduceSub, Nat.reduceMul, Int.reduceAdd, Int.reduceEq, Int.reduceLT, Int.reduceLE, Int.reduceNeg, Nat.reduceLT, Nat.reduceLeDiff, Nat.reduceEqDiff, B.bs]
    repeat' first
    | with_reducible refine awp_seq ?_
    | ((with_reducible refine awp_region ?_); refine zS ?_)
    | ((with_reducible refine AWP_c ?_); refine zcdD ?_ ?_ <;> intro hb hb2 <;> first | contradiction | (exfalso; omega) | ((try refine zH hb2 ?_); try clear hb2))
    | ((with_reducible refine AWP_c ?_); refine zcdB ?_ ?_ <;> intro hb <;> first | contradiction | (try refine zH hb ?_))
    | ((with_reducible refine awp_ret ?_); refine fin_q ?_ ?_)
    | ((with_reducible refine awp_skip ?_); refine zS ?_)
    | with_reducible refine awp_block ?_
    | ((with_reducible refine awp_exit ?_); refine zS ?_)
    | ((with_reducible refine CallK_id ?_); refine zcT [0] ?_; refine ⟨_, _, by first | exact lt_ok (gt b.conds i) r1 1 (by omega) (by omega) (by omega) (by omega) | fail, ?_⟩; try refine zS ?_)
    · have hi : i < b.conds.length := by omega
      rw [h4, drop_gt hi, lTs_t ‹_ = true›]
    · have hi : i < b.conds.length := by omega
      rw [h4, drop_gt hi, lTs_t ‹_ = true›]
    · have hi : i < b.conds.length := by omega
      have hl := ‹(largeT (gt b.conds i) r1 1).1 = false›
      have hq := largeT_le (gt b.conds i) r1 1
      have hq2 := hq.2.2 hl
      exact ⟨(i + 1, (largeT (gt b.conds i) r1 1).2), ⟨by simp only; omega, by simp only; omega, by simp only; omega, by rw [h4, drop_gt hi, lTs_f ‹_ = false›]⟩, by simp only; omega, wk_cl 2 (by decide) (by simp) (by simp only [go_sem, Bool.not_not, List.mem_singleton, forall_eq, ↓reduceIte, if_pos, rowsAt_map, wrap64, wrapu8, List.getElem?_cons_zero, List.getElem?_cons_succ, Int.reduceToNat, Nat.reduceAdd, Nat.reduceBEq, Bool.or_false, Bool.false_or, Bool.true_or, Nat.reduceSub, Nat.reduceMul, Int.reduceAdd, Int.reduceEq, Int.reduceLT, Int.reduceLE, Int.reduceNeg, Nat.reduceLT, Nat.reduceLeDiff, Nat.reduceEqDiff]; simp) (by simp only [go_sem, Bool.not_not, List.mem_singleton, forall_eq, ↓reduceIte, if_pos, rowsAt_map, wrap64, wrapu8, List.getElem?_cons_zero, List.getElem?_cons_succ, Int.reduceToNat, Nat.reduceAdd, Nat.reduceBEq, Bool.or_false, Bool.false_or, Bool.true_or, Nat.reduceSub, Nat.reduceMul, Int.reduceAdd, Int.reduceEq, Int.reduceLT, Int.reduceLE, Int.reduceNeg, Nat.reduceLT, Nat.reduceLeDiff, Nat.reduceEqDiff, B.bs])⟩
    have h0 : largeB b r d = K2 b d r1 := by
      have hi : i = b.conds.length := by omega
      subst hi
      rw [h4, List.drop_length, lTs_n]
    refine awp_loopT (fun s : Nat × Int => s.1 ≤ b.nodes.length ∧ 0 ≤ s.2 ∧ s.2 ≤ r - 1 ∧ largeB b r d = thenL (largeTs ((b.nodes.drop s.1).map Nd.t) s.2 1) (K3 b d)) (fun s => b.nodes.length - s.1) (fun s => [(85, aI s.1)])
      (fun s => [some (.box [.d (dI s.2)]), some (.box b.bs)]) (0, r1) ⟨by simp, by simp only; omega, by simp only; omega, by rw [h0]; rfl⟩ (wk_le (by simp only [go_sem, Bool.not_not, List.mem_singleton, forall_eq, ↓reduceIte, if_pos, rowsAt_map, wrap64, wrapu8, List.getElem?_cons_zero, List.getElem?_cons_succ, Int.reduceToNat, Nat.reduceAdd, Nat.reduceBEq, Bool.or_false, Bool.false_or, Bool.true_or, Nat.reduceSub, Nat.reduceMul, Int.reduceAdd, Int.reduceEq, Int.reduceLT, Int.reduceLE, Int.reduceNeg, Nat.reduceLT, Nat.reduceLeDiff, Nat.reduceEqDiff, B.bs]; simp) (by simp only [go_sem, Bool.not_not, List.mem_singleton, forall_eq, ↓reduceIte, if_pos, rowsAt_map, wrap64, wrapu8, List.getElem?_cons_zero, List.getElem?_cons_succ, Int.reduceToNat, Nat.reduceAdd, Nat.reduceBEq, Bool.or_false, Bool.false_or, Bool.true_or, Nat.reduceSub, Nat.reduceMul, Int.reduceAdd, Int.reduceEq, Int.reduceLT, Int.reduceLE, Int.reduceNeg, Nat.reduceLT, Nat.reduceLeDiff, Nat.reduceEqDiff, B.bs])) ?_
    rintro ⟨i, r1⟩ ⟨h1, h2, h3, h4⟩
    simp only at h1 h2 h3 h4
    clear h0
    simp only [go_sem, Bool.not_not, List.mem_singleton, forall_eq, ↓reduceIte, if_pos, rowsAt_map, wrap64, wrapu8, List.getElem?_cons_zero, List.getElem?_cons_succ, Int.reduceToNat, Nat.reduceAdd, Nat.reduceBEq, Bool.or_false, Bool.false_or, Bool.true_or, Nat.reduceSub, Nat.reduceMul, Int.reduceAdd, Int.reduceEq, Int.reduceLT, Int.reduceLE, Int.reduceNeg, Nat.reduceLT, Nat.reduceLeDiff, Nat.reduceEqDiff, B.bs]
    repeat' first
    | with_reducible refine awp_seq ?_
    | ((with_reducible refine awp_region ?_); refine zS ?_)
    | ((with_reducible refine AWP_c ?_); refine zcdD ?_ ?_ <;> intro hb hb2 <;> first | contradiction | (exfalso; omega) | ((try refine zH hb2 ?_); try clear hb2))
    | ((with_reducible refine AWP_c ?_); refine zcdB ?_ ?_ <;> intro hb <;> first | contradiction | (try refine zH hb ?_))
    | ((with_reducible refine awp_ret ?_); refine fin_q ?_ ?_)
    | ((with_reducible refine awp_skip ?_); refine zS ?_)
    | with_reducible refine awp_block ?_
    | ((with_reducible refine awp_exit ?_); refine zS ?_)
    | ((with_reducible refine CallK_id ?_); refine zcT [0] ?_; refine ⟨_, _, by first | exact lt_ok (gt b.nodes i).t r1 1 (by omega) (by omega) (by omega) (by omega) | fail, ?_⟩; try refine zS ?_)
    · have hi : i < b.nodes.length := by omega
      rw [h4, drop_gt hi, List.map_cons, lTs_t ‹_ = true›]
    · have hi : i < b.nodes.length := by omega
      rw [h4, drop_gt hi, List.map_cons, lTs_t ‹_ = true›]
    · have hi : i < b.nodes.length := by omega
      have hl := ‹(largeT (gt b.nodes i).t r1 1).1 = false›
      have hq := largeT_le (gt b.nodes i).t r1 1
      have hq2 := hq.2.2 hl
      exact ⟨(i + 1, (largeT (gt b.nodes i).t r1 1).2), ⟨by simp only; omega, by simp only; omega, by simp only; omega, by rw [h4, drop_gt hi, List.map_cons, lTs_f ‹_ = false›]⟩, by simp only; omega, wk_cl 2 (by decide) (by simp) (by simp only [go_sem, Bool.not_not, List.mem_singleton, forall_eq, ↓reduceIte, if_pos, rowsAt_map, wrap64, wrapu8, List.getElem?_cons_zero, List.getElem?_cons_succ, Int.reduceToNat, Nat.reduceAdd, Nat.reduceBEq, Bool.or_false, Bool.false_or, Bool.true_or, Nat.reduceSub, Nat.reduceMul, Int.reduceAdd, Int.reduceEq, Int.reduceLT, Int.reduceLE, Int.reduceNeg, Nat.reduceLT, Nat.reduceLeDiff, Nat.reduceEqDiff]; simp) (by simp only [go_sem, Bool.not_not, List.mem_singleton, forall_eq, ↓reduceIte, if_pos, rowsAt_map, wrap64, wrapu8, List.getElem?_cons_zero, List.getElem?_cons_succ, Int.reduceToNat, Nat.reduceAdd, Nat.reduceBEq, Bool.or_false, Bool.false_or, Bool.true_or, Nat.reduceSub, Nat.reduceMul, Int.reduceAdd, Int.reduceEq, Int.reduceLT, Int.reduceLE, Int.reduceNeg, Nat.reduceLT, Nat.reduceLeDiff, Nat.reduceEqDiff, B.bs])⟩
    have h0 : largeB b r d = K3 b d r1 := by
      have hi : i = b.nodes.length := by omega
      subst hi
      rw [h4, List.drop_length, List.map_nil, lTs_n]
    refine awp_loopT (fun s : Nat × Int => s.1 ≤ b.flows.length ∧ 0 ≤ s.2 ∧ s.2 ≤ r - 1 ∧ largeB b r d = thenL (largeTs ((b.flows.drop s.1).map Fl.t) s.2 1) (K4 b d)) (fun s => b.flows.length - s.1) (fun s => [(98, aI s.1)])
      (fun s => [some (.box [.d (dI s.2)]), some (.box b.bs)]) (0, r1) ⟨by simp, by simp only; omega, by simp only; omega, by rw [h0]; rfl⟩ (wk_le (by simp only [go_sem, Bool.not_not, List.mem_singleton, forall_eq, ↓reduceIte, if_pos, rowsAt_map, wrap64, wrapu8, List.getElem?_cons_zero, List.getElem?_cons_succ, Int.reduceToNat, Nat.reduceAdd, Nat.reduceBEq, Bool.or_false, Bool.false_or, Bool.true_or, Nat.reduceSub, Nat.reduceMul, Int.reduceAdd, Int.reduceEq, Int.reduceLT, Int.reduceLE, Int.reduceNeg, Nat.reduceLT, Nat.reduceLeDiff, Nat.reduceEqDiff, B.bs]; simp) (by simp only [go_sem, Bool.not_not, List.mem_singleton, forall_eq, ↓reduceIte, if_pos, rowsAt_map, wrap64, wrapu8, List.getElem?_cons_zero, List.getElem?_cons_succ, Int.reduceToNat, Nat.reduceAdd, Nat.reduceBEq, Bool.or_false, Bool.false_or, Bool.true_or, Nat.reduceSub, Nat.reduceMul, Int.reduceAdd, Int.reduceEq, Int.reduceLT, Int.reduceLE, Int.reduceNeg, Nat.reduceLT, Nat.reduceLeDiff, Nat.reduceEqDiff, B.bs])) ?_
    rintro ⟨i, r1⟩ ⟨h1, h2, h3, h4⟩
    simp only at h1 h2 h3 h4
    clear h0
    simp only [go_sem, Bool.not_not, List.mem_singleton, forall_eq, ↓reduceIte, if_pos, rowsAt_map, wrap64, wrapu8, List.getElem?_cons_zero, List.getElem?_cons_succ, Int.reduceToNat, Nat.reduceAdd, Nat.reduceBEq, Bool.or_false, Bool.false_or, Bool.true_or, Nat.reduceSub, Nat.reduceMul, Int.reduceAdd, Int.reduceEq, Int.reduceLT, Int.reduceLE, Int.reduceNeg, Nat.reduceLT, Nat.reduceLeDiff, Nat.reduceEqDiff, B.bs]
    repeat' first
    | with_reducible refine awp_seq ?_
    | ((with_reducible refine awp_region ?_); refine zS ?_)
    | ((with_reducible refine AWP_c ?_); refine zcdD ?_ ?_ <;> intro hb hb2 <;> first | contradiction | (exfalso; omega) | ((try refine zH hb2 ?_); try clear hb2))
    | ((with_reducible refine AWP_c ?_); refine zcdB ?_ ?_ <;> intro hb <;> first | contradiction | (try refine zH hb ?_))
    | ((with_reducible refine awp_ret ?_); refine fin_q ?_ ?_)
    | ((with_reducible refine awp_skip ?_); refine zS ?_)
    | with_reducible refine awp_block ?_
    | ((with_reducible refine awp_exit ?_); refine zS ?_)
    | ((with_reducible refine CallK_id ?_); refine zcT [0] ?_; refine ⟨_, _, by first | exact lt_ok (gt b.flows i).t r1 1 (by omega) (by omega) (by omega) (by omega) | fail, ?_⟩; try refine zS ?_)
    · have hi : i < b.flows.length := by omega
      rw [h4, drop_gt hi, List.map_cons, lTs_t ‹_ = true›]
    · have hi : i < b.flows.length := by omega
      rw [h4, drop_gt hi, List.map_cons, lTs_t ‹_ = true›]
    · have hi : i < b.flows.length := by omega
      have hl := ‹(largeT (gt b.flows i).t r1 1).1 = false›
      have hq := largeT_le (gt b.flows i).t r1 1
      have hq2 := hq.2.2 hl
      exact ⟨(i + 1, (largeT (gt b.flows i).t r1 1).2), ⟨by simp only; omega, by simp only; omega, by simp only; omega, by rw [h4, drop_gt hi, List.map_cons, lTs_f ‹_ = false›]⟩, by simp only; omega, wk_cl 2 (by decide) (by simp) (by simp only [go_sem, Bool.not_not, List.mem_singleton, forall_eq, ↓reduceIte, if_pos, rowsAt_map, wrap64, wrapu8, List.getElem?_cons_zero, List.getElem?_cons_succ, Int.reduceToNat, Nat.reduceAdd, Nat.reduceBEq, Bool.or_false, Bool.false_or, Bool.true_or, Nat.reduceSub, Nat.reduceMul, Int.reduceAdd, Int.reduceEq, Int.reduceLT, Int.reduceLE, Int.reduceNeg, Nat.reduceLT, Nat.reduceLeDiff, Nat.reduceEqDiff]; simp) (by simp only [go_sem, Bool.not_not, List.mem_singleton, forall_eq, ↓reduceIte, if_pos, rowsAt_map, wrap64, wrapu8, List.getElem?_cons_zero, List.getElem?_cons_succ, Int.reduceToNat, Nat.reduceAdd, Nat.reduceBEq, Bool.or_false, Bool.false_or, Bool.true_or, Nat.reduceSub, Nat.reduceMul, Int.reduceAdd, Int.reduceEq, Int.reduceLT, Int.reduceLE, Int.reduceNeg, Nat.reduceLT, Nat.reduceLeDiff, Nat.reduceEqDiff, B.bs])⟩
    have h0 : largeB b r d = K4 b d r1 := by
      have hi : i = b.flows.length := by omega
      subst hi
      rw [h4, List.drop_length, List.map_nil, lTs_n]
    refine awp_loopT (fun s : Nat × Int => s.1 ≤ b.kids.length ∧ 0 ≤ s.2 ∧ s.2 ≤ r - 1 ∧ largeB b r d = largeBs (b.kids.drop s.1) s.2 (d + 1)) (fun s => b.kids.length - s.1) (fun s => [(110, aI s.1)])
      (fun s => [some (.box [.d (dI s.2)]), some (.box b.bs)]) (0, r1) ⟨by simp, by simp only; omega, by simp only; omega, by rw [h0]; rfl⟩ (wk_le (by simp only [go_sem, Bool.not_not, List.mem_singleton, forall_eq, ↓reduceIte, if_pos, rowsAt_map, wrap64, wrapu8, List.getElem?_cons_zero, List.getElem?_cons_succ, Int.reduceToNat, Nat.reduceAdd, Nat.reduceBEq, Bool.or_false, Bool.false_or, Bool.true_or, Nat.reduceSub, Nat.reduceMul, Int.reduceAdd, Int.reduceEq, Int.reduceLT, Int.reduceLE, Int.reduceNeg, Nat.reduceLT, Nat.reduceLeDiff, Nat.reduceEqDiff, B.bs]; simp) (by simp only [go_sem, Bool.not_not, List.mem_singleton, forall_eq, ↓reduceIte, if_pos, rowsAt_map, wrap64, wrapu8, List.getElem?_cons_zero, List.getElem?_cons_succ, Int.reduceToNat, Nat.reduceAdd, Nat.reduceBEq, Bool.or_false, Bool.false_or, Bool.true_or, Nat.reduceSub, Nat.reduceMul, Int.reduceAdd, Int.reduceEq, Int.reduceLT, Int.reduceLE, Int.reduceNeg, Nat.reduceLT, Nat.reduceLeDiff, Nat.reduceEqDiff, B.bs])) ?_
    rintro ⟨i, r1⟩ ⟨h1, h2, h3, h4⟩
    simp only at h1 h2 h3 h4
    clear h0
    simp only [go_sem, Bool.not_not, List.mem_singleton, forall_eq, ↓reduceIte, if_pos, rowsAt_map, wrap64, wrapu8, List.getElem?_cons_zero, List.getElem?_cons_succ, Int.reduceToNat, Nat.reduceAdd, Nat.reduceBEq, Bool.or_false, Bool.false_or, Bool.true_or, Nat.reduceSub, Nat.reduceMul, Int.reduceAdd, Int.reduceEq, Int.reduceLT, Int.reduceLE, Int.reduceNeg, Nat.reduceLT, Nat.reduceLeDiff, Nat.reduceEqDiff, B.bs]
    repeat' first
    | with_reducible refine awp_seq ?_
    | ((with_reducible refine awp_region ?_); refine zS ?_)
    | ((with_reducible refine AWP_c ?_); refine zcdD ?_ ?_ <;> intro hb hb2 <;> first | contradiction | (exfalso; omega) | ((try refine zH hb2 ?_); try clear hb2))
    | ((with_reducible refine AWP_c ?_); refine zcdB ?_ ?_ <;> intro hb <;> first | contradiction | (try refine zH hb ?_))
    | ((with_reducible refine awp_ret ?_); refine fin_q ?_ ?_)
    | ((with_reducible refine awp_skip ?_); refine zS ?_)
    | with_reducible refine awp_block ?_
    | ((with_reducible refine awp_exit ?_); refine zS ?_)
    | ((with_reducible refine CallK_id ?_); refine zcT [0] ?_; refine ⟨_, _, by first | exact ih (gt b.kids i) r1 (d + 1) (B.size_lt (gt_mem (by omega))) (by omega) (by omega) (by omega) (by omega) | fail, ?_⟩; try refine zS ?_)
    · have hi : i < b.kids.length := by omega
      rw [h4, drop_gt hi, largeBs, thenL_t ‹_ = true›]
    · have hi : i < b.kids.length := by omega
      rw [h4, drop_gt hi, largeBs, thenL_t ‹_ = true›]
    · have hi : i < b.kids.length := by omega
      have hl := ‹(largeB (gt b.kids i) r1 (d + 1)).1 = false›
      have hq := largeB_le (gt b.kids i) r1 (d + 1)
      have hq2 := hq.2.2 hl
      exact ⟨(i + 1, (largeB (gt b.kids i) r1 (d + 1)).2), ⟨by simp only; omega, by simp only; omega, by simp only; omega, by rw [h4, drop_gt hi, largeBs, thenL_f ‹_ = false›]⟩, by simp only; omega, wk_cl 2 (by decide) (by simp) (by simp only [go_sem, Bool.not_not, List.mem_singleton, forall_eq, ↓reduceIte, if_pos, rowsAt_map, wrap64, wrapu8, List.getElem?_cons_zero, List.getElem?_cons_succ, Int.reduceToNat, Nat.reduceAdd, Nat.reduceBEq, Bool.or_false, Bool.false_or, Bool.true_or, Nat.reduceSub, Nat.reduceMul, Int.reduceAdd, Int.reduceEq, Int.reduceLT, Int.reduceLE, Int.reduceNeg, Nat.reduceLT, Nat.reduceLeDiff, Nat.reduceEqDiff]; simp) (by simp only [go_sem, Bool.not_not, List.mem_singleton, forall_eq, ↓reduceIte, if_pos, rowsAt_map, wrap64, wrapu8, List.getElem?_cons_zero, List.getElem?_cons_succ, Int.reduceToNat, Nat.reduceAdd, Nat.reduceBEq, Bool.or_false, Bool.false_or, Bool.true_or, Nat.reduceSub, Nat.reduceMul, Int.reduceAdd, Int.reduceEq, Int.reduceLT, Int.reduceLE, Int.reduceNeg, Nat.reduceLT, Nat.reduceLeDiff, Nat.reduceEqDiff, B.bs])⟩
    · have hi : i = b.kids.length := by omega
      subst hi
      rw [h4, List.drop_length, largeBs]
    · have hi : i = b.kids.length := by omega
      subst hi
      rw [h4, List.drop_length, largeBs]
theorem large_ok (b : B) (r d : Int) (hr : -4611686018427387904 < r) (hr2 : r < 4611686018427387904) (hd : 0 ≤ d) (hd2 : d ≤ 41) : AFn env 5 [b.a, P0, aI d] [some (.box [.d (dI r)])] (aB (largeB b r d).1) [some (.box [.d (dI (largeB b r d).2)])] := by
  generalize hn : b.size = n
  induction n using Nat.strongRecOn generalizing b r d with
  | _ n ih0 => exact largeB_ok0 b r d hr hr2 hd hd2 fun k r d h h2 h3 h4 h5 => ih0 k.size (by omega) k r d h2 h3 h4 h5 rfl
theorem not_large {b : B} {r : Int} (h : (largeB b r 1).1 = false) (hr : 0 ≤ r) (hr2 : r ≤ 1500) : b.size ≤ 100000 := by
  have := (largeB_le b r 1)
  have h2 := this.2.2 h
  omega
end Go.Eng
open Go Go.Proofs
namespace Go.Eng
set_option linter.unusedSimpArgs false
set_option linter.unusedVariables false
set_option maxRecDepth 10000
set_option maxHeartbeats 4000000

mutual
def B.count : B → Nat
  | .mk _ _ _ _ _ _ ks _ _ _ => B.counts ks + 1
def B.counts : List B → Nat
  | [] => 0
  | t :: l => t.count + B.counts l
end
mutual
theorem B.count_le : ∀ b : B, b.count ≤ b.size
  | .mk _ _ _ _ _ _ ks _ _ _ => by have := B.counts_le ks; simp only [B.count, B.size]; omega
theorem B.counts_le : ∀ l : List B, B.counts l ≤ B.sizes l
  | [] => by simp [B.counts]
  | t :: l => by have := B.count_le t; have := B.counts_le l; simp only [B.counts, B.sizes]; omega
end
mutual
def itemsF : B → Int → Int → Nat → List It
  | .mk k n x y t c ks l ns fs, p, q, off => ⟨p, q, .mk k n x y t c ks l ns fs⟩ :: itemsK ks off (off + 1) 0
def itemsK : List B → Nat → Nat → Nat → List It
  | [], _, _, _ => []
  | b :: l, own, off, i => itemsF b own i off ++ itemsK l own (off + b.count) (i + 1)
end
theorem itemsF_eq (b : B) (p q : Int) (off : Nat) : itemsF b p q off = ⟨p, q, b⟩ :: itemsK b.kids off (off + 1) 0 := by cases b; rw [itemsF]; rfl
mutual
theorem itemsF_len : ∀ (b : B) (p q : Int) (off : Nat), (itemsF b p q off).length = b.count
  | .mk k n x y t c ks l ns fs, p, q, off => by rw [itemsF, List.length_cons, itemsK_len ks]; simp only [B.count]
theorem itemsK_len : ∀ (l : List B) (own off i : Nat), (itemsK l own off i).length = B.counts l
  | [], _, _, _ => by simp [itemsK, B.counts]
  | b :: l, own, off, i => by rw [itemsK, List.length_append, itemsF_len b, itemsK_len l]; simp only [B.counts]
end
def Own (n : Nat) : A := .c (.own 0 0 n n)
def RwI (l : List It) : Option Blk := some (.rows 14 (l.map It.row))
attribute [go_sem] Own RwI

theorem listed_ok (b : B) (p q : Int) (l : List It) (hs : l.length + b.size ≤ 1000000) :
    AFn env 26 [Own l.length, b.a, aI p, aI q] [RwI l] (Own (l ++ itemsF b p q l.length).length) [RwI (l ++ itemsF b p q l.length)] := by
  generalize hn : b.size = n
  induction n using Nat.strongRecOn generalizing b p q l with
  | _ n ih0 =>
    have ih : ∀ (b' : B) (p q : Int) (l : List It), b'.size < b.size → l.length + b'.size ≤ 1000000 → AFn env 26 [Own l.length, b'.a, aI p, aI q] [RwI l] (Own (l ++ itemsF b' p q l.length).length) [RwI (l ++ itemsF b' p q l.length)] :=
      fun b' p q l h h2 => ih0 b'.size (by omega) b' p q l h2 rfl
    have hbz := b.size_eq
    have hpos := b.size_pos
    have hbl := B.len_le b.kids
    have e1 : l.map It.row ++ [It.row ⟨p, q, b⟩] = (l ++ [⟨p, q, b⟩] : List It).map It.row := by simp
    refine afn_body Tryd.func26 rfl (by decide) ?_
    simp only [Tryd.ntmps26, Tryd.results26, List.length_cons, List.length_nil, List.cons_append, List.nil_append, Nat.reduceAdd, Nat.reduceSub, List.replicate]
    repeat' first
    | with_reducible refine awp_seq ?_
    | ((with_reducible refine awp_region ?_); simp (maxSteps := 500000) (disch := omega) only [go_sem, Bool.not_not, List.mem_singleton, forall_eq, ↓reduceIte, if_pos, rowsAt_map, wrap64, wrapu8, List.getElem?_cons_zero, List.getElem?_cons_succ, Int.reduceToNat, Nat.reduceAdd, Nat.reduceBEq, Bool.or_false, Bool.false_or, Bool.true_or, Nat.reduceSub, Nat.reduceMul, Int.reduceAdd, Int.reduceEq, Int.reduceLT, Int.reduceLE, Int.reduceNeg, Nat.reduceLT, Nat.reduceLeDiff, Nat.reduceEqDiff, List.length_append])
    | with_reducible refine awp_block ?_
    refine awp_loopT (fun s : Nat × List It => s.1 ≤ b.kids.length ∧ s.2 ++ itemsK (b.kids.drop s.1) l.length s.2.length s.1 = l ++ itemsF b p q l.length ∧ s.2.length + B.sizes (b.kids.drop s.1) ≤ l.length + b.size) (fun s => b.kids.length - s.1) (fun s => [(0, Own s.2.length), (9, aI l.length), (17, .any), (25, aI s.1)])
      (fun s => [RwI s.2, some (.box b.bs)]) (0, l ++ [⟨p, q, b⟩]) ⟨by simp, by rw [itemsF_eq]; simp, by simp; omega⟩ (wk_cl 2 (by decide) (by simp) (by simp only [go_sem, Bool.not_not, List.mem_singleton, forall_eq, ↓reduceIte, if_pos, rowsAt_map, wrap64, wrapu8, List.getElem?_cons_zero, List.getElem?_cons_succ, Int.reduceToNat, Nat.reduceAdd, Nat.reduceBEq, Bool.or_false, Bool.false_or, Bool.true_or, Nat.reduceSub, Nat.reduceMul, Int.reduceAdd, Int.reduceEq, Int.reduceLT, Int.reduceLE, Int.reduceNeg, Nat.reduceLT, Nat.reduceLeDiff, Nat.reduceEqDiff, B.bs]; simp) (by simp only [go_sem, Bool.not_not, List.mem_singleton, forall_eq, ↓reduceIte, if_pos, rowsAt_map, wrap64, wrapu8, List.getElem?_cons_zero, List.getElem?_cons_succ, Int.reduceToNat, Nat.reduceAdd, Nat.reduceBEq, Bool.or_false, Bool.false_or, Bool.true_or, Nat.reduceSub, Nat.reduceMul, Int.reduceAdd, Int.reduceEq, Int.reduceLT, Int.reduceLE, Int.reduceNeg, Nat.reduceLT, Nat.reduceLeDiff, Nat.reduceEqDiff, B.bs]; simp [go_sem])) ?_
    rintro ⟨i, l2⟩ ⟨h1, h2, h5⟩
    simp only at h1 h2 h5
    have h3 := congrArg List.length h2
    simp only [List.length_append, itemsK_len, itemsF_len] at h3
    have h4 := b.count_le
    have hk : i < b.kids.length → l2.length + (gt b.kids i).size + B.sizes (b.kids.drop (i + 1)) ≤ l.length + b.size := fun hi => by rw [drop_gt hi, B.sizes] at h5; omega
    simp only [go_sem, Bool.not_not, List.mem_singleton, forall_eq, ↓reduceIte, if_pos, rowsAt_map, wrap64, wrapu8, List.getElem?_cons_zero, List.getElem?_cons_succ, Int.reduceToNat, Nat.reduceAdd, Nat.reduceBEq, Bool.or_false, Bool.false_or, Bool.true_or, Nat.reduceSub, Nat.reduceMul, Int.reduceAdd, Int.reduceEq, Int.reduceLT, Int.reduceLE, Int.reduceNeg, Nat.reduceLT, Nat.reduceLeDiff, Nat.reduceEqDiff, B.bs]
    repeat' first
    | with_reducible refine awp_seq ?_
    | ((with_reducible refine awp_region ?_); refine zS ?_)
    | ((with_reducible refine AWP_c ?_); refine zcdD ?_ ?_ <;> intro hb hb2 <;> first | contradiction | (exfalso; omega) | ((try refine zH hb2 ?_); try clear hb2))
    | ((with_reducible refine awp_skip ?_); refine zS ?_)
    | with_reducible refine awp_block ?_
    | ((with_reducible refine awp_exit ?_); refine zS ?_)
    | ((with_reducible refine CallK_id ?_); refine zcT [0] ?_; refine ⟨_, _, by first | exact ih (gt b.kids i) l.length i l2 (B.size_lt (gt_mem (by omega))) (by have := hk (by omega); omega) | fail, ?_⟩; try refine zS ?_)
    · have hi : i < b.kids.length := by omega
      have hk1 := hk hi
      have hc := (gt b.kids i).count_le
      exact ⟨(i + 1, l2 ++ itemsF (gt b.kids i) l.length i l2.length), ⟨by simp only; omega, by rw [← h2, drop_gt hi, itemsK]; simp [itemsF_len], by simp only [List.length_append, itemsF_len]; omega⟩, by simp only; omega, wk_cl 2 (by decide) (by simp) (by simp only [go_sem, Bool.not_not, List.mem_singleton, forall_eq, ↓reduceIte, if_pos, rowsAt_map, wrap64, wrapu8, List.getElem?_cons_zero, List.getElem?_cons_succ, Int.reduceToNat, Nat.reduceAdd, Nat.reduceBEq, Bool.or_false, Bool.false_or, Bool.true_or, Nat.reduceSub, Nat.reduceMul, Int.reduceAdd, Int.reduceEq, Int.reduceLT, Int.reduceLE, Int.reduceNeg, Nat.reduceLT, Nat.reduceLeDiff, Nat.reduceEqDiff, B.bs]; simp) (by simp only [go_sem, Bool.not_not, List.mem_singleton, forall_eq, ↓reduceIte, if_pos, rowsAt_map, wrap64, wrapu8, List.getElem?_cons_zero, List.getElem?_cons_succ, Int.reduceToNat, Nat.reduceAdd, Nat.reduceBEq, Bool.or_false, Bool.false_or, Bool.true_or, Nat.reduceSub, Nat.reduceMul, Int.reduceAdd, Int.reduceEq, Int.reduceLT, Int.reduceLE, Int.reduceNeg, Nat.reduceLT, Nat.reduceLeDiff, Nat.reduceEqDiff, B.bs])⟩
    · have hi : i = b.kids.length := by omega
      subst hi
      rw [List.drop_length, itemsK, List.append_nil] at h2
      refine awp_ret ?_
      refine fin_q ?_ ?_ (h3 := rfl)
      · rw [h2, List.length_append]
      · rw [h2]
theorem listed_nil (b : B) (hs : b.size ≤ 1000000) : AFn env 26 [.c .nils, b.a, aI (-1), aI 0] [] (aF ((itemsF b (-1) 0 0).map It.row)) [] := by
  have h := listed_ok b (-1) 0 [] (by simp; omega)
  exact afn_virt (s := 14) (rty := none) (by decide) h rfl rfl (by simp [go_sem, frA, mrg, subR]; rfl) rfl
theorem items_ok (b : B) (hs : b.size ≤ 1000000) : AFn env 22 [b.a] [] (aF ((itemsF b (-1) 0 0).map It.row)) [] := by
  refine afn_body Tryd.func22 rfl (by decide) ?_
  simp only [Tryd.ntmps22, Tryd.results22, List.length_cons, List.length_nil, List.cons_append, List.nil_append, Nat.reduceAdd, Nat.reduceSub, List.replicate]
  repeat' first
  | with_reducible refine awp_seq ?_
  | ((with_reducible refine awp_region ?_); refine zS ?_)
  refine CallK_id ?_
  refine callP ⟨_, rfl⟩ rfl rfl ⟨_, listed_nil b hs, fun _ => rfl, fun _ => rfl, rfl, ?_⟩
  refine zT ?_
  repeat' first
  | ((with_reducible refine awp_ret ?_); refine fin_r ?_)
  rfl
def Own1 (n : Nat) : A := .c (.own 1 0 n n)
attribute [go_sem] Own1
mutual
theorem itemsF_size : ∀ (b : B) (p q : Int) (off : Nat), ∀ x ∈ itemsF b p q off, x.b.size ≤ b.size
  | .mk k n x y t c ks l ns fs, p, q, off, z, hz => by
    rw [itemsF] at hz
    rcases List.mem_cons.1 hz with rfl | h
    · exact Nat.le_refl _
    · have := itemsK_size ks _ _ _ z h
      simp only [B.size]; omega
theorem itemsK_size : ∀ (l : List B) (own off i : Nat), ∀ x ∈ itemsK l own off i, x.b.size ≤ B.sizes l
  | [], _, _, _, x, h => by simp [itemsK] at h
  | b :: l, own, off, i, x, h => by
    rw [itemsK] at h
    simp only [B.sizes]
    rcases List.mem_append.1 h with h | h
    · have := itemsF_size b _ _ _ x h; omega
    · have := itemsK_size l _ _ _ x h; omega
end
end Go.Eng
open Go Go.Proofs
namespace Go.Eng
set_option linter.unusedSimpArgs false
set_option linter.unusedVariables false
set_option maxRecDepth 10000
set_option maxHeartbeats 4000000
def eqL {α : Type} (p : α → α → Bool) : List α → List α → Bool
  | [], [] => true
  | a :: l, b :: r => p a b && eqL p l r
  | _, _ => false
theorem eqL_len {α : Type} {p : α → α → Bool} : ∀ {l r : List α}, l.length ≠ r.length → eqL p l r = false
  | [], [], h => absurd rfl h
  | a :: l, b :: r, h => by rw [eqL, eqL_len (l := l) (r := r) (by simpa using h), Bool.and_false]
  | [], _ :: _, _ => rfl
  | _ :: _, [], _ => rfl
theorem eqL_nil {α : Type} {p : α → α → Bool} {l r : List α} (h1 : l = []) (h2 : r = []) : eqL p l r = true := by subst h1; subst h2; rfl
theorem eqL_f {α : Type} [Inhabited α] {p : α → α → Bool} {l r : List α} {i : Nat} (h1 : i < l.length) (h2 : i < r.length) (h : p (gt l i) (gt r i) = false) : eqL p (l.drop i) (r.drop i) = false := by
  rw [drop_gt h1, drop_gt h2, eqL, h, Bool.false_and]
theorem eqL_t {α : Type} [Inhabited α] {p : α → α → Bool} {l r : List α} {i : Nat} (h1 : i < l.length) (h2 : i < r.length) (h : p (gt l i) (gt r i) = true) : eqL p (l.drop i) (r.drop i) = eqL p (l.drop (i + 1)) (r.drop (i + 1)) := by
  rw [drop_gt h1, drop_gt h2, eqL, h, Bool.true_and]
theorem eqfT_ok (F : FuncId) (p : T → T → Bool) (l r : List T) (hl : l.length < 4611686018427387904) (h : ∀ i, i < l.length → i < r.length → AFn env F [(gt l i).a, (gt r i).a] [] (aB (p (gt l i) (gt r i))) []) :
    AFn env 33 [aF (l.map T.row), aF (r.map T.row), .c (.clo (.func F) [])] [] (aB (eqL p l r)) [] := by
  refine afn_body Tryd.func33 rfl (by decide) ?_
  simp only [Tryd.ntmps33, Tryd.results33, List.length_cons, List.length_nil, List.cons_append, List.nil_append, Nat.reduceAdd, Nat.reduceSub, List.replicate]
  repeat' first
  | with_reducible refine awp_seq ?_
  | ((with_reducible refine awp_region ?_); refine zS ?_)
  | ((with_reducible refine AWP_c ?_); refine zcdN ?_ ?_ <;> intro hb hb2 <;> first | contradiction | (exfalso; omega) | ((try refine zH hb2 ?_); try clear hb2))
  | ((with_reducible refine awp_ret ?_); refine fin_r ?_)
  | ((with_reducible refine awp_skip ?_); refine zS ?_)
  | with_reducible refine awp_block ?_
  · rw [eqL_len (by omega)]
  refine awp_loopT (fun i : Nat => i ≤ l.length ∧ eqL p l r = eqL p (l.drop i) (r.drop i)) (fun i => l.length - i) (fun i => [(17, aI i)]) (fun _ => []) 0 ⟨by omega, rfl⟩ (by exact zwl) ?_
  rintro i ⟨h1, h2⟩
  refine zT ?_
  repeat' first
  | with_reducible refine awp_seq ?_
  | ((with_reducible refine awp_region ?_); refine zS ?_)
  | ((with_reducible refine AWP_c ?_); refine zcdD ?_ ?_ <;> intro hb hb2 <;> first | contradiction | (exfalso; omega) | ((try refine zH hb2 ?_); try clear hb2))
  | ((with_reducible refine AWP_c ?_); refine zcdM ?_ ?_ <;> intro hb <;> first | contradiction | (try refine zH hb ?_))
  | ((with_reducible refine awp_ret ?_); refine fin_r ?_)
  | ((with_reducible refine awp_skip ?_); refine zS ?_)
  | with_reducible refine awp_block ?_
  | ((with_reducible refine awp_exit ?_); refine zS ?_)
  | ((with_reducible refine CallK_id ?_); refine zcF ?_; refine ⟨_, by first | exact h i (by omega) (by omega) | fail, fun _ => rfl, fun _ => rfl, rfl, ?_⟩; try refine zS ?_)
  · rw [h2, eqL_f (by omega) (by omega) ‹p _ _ = false›]
  · exact ⟨i + 1, ⟨by omega, by rw [h2, eqL_t (by omega) (by omega) ‹p _ _ = true›]⟩, by omega, (by exact zwc 0)⟩
  · rw [h2, eqL_nil (List.drop_eq_nil_of_le (by omega)) (List.drop_eq_nil_of_le (by omega))]
theorem eqfB_ok (F : FuncId) (p : B → B → Bool) (l r : List B) (hl : l.length < 4611686018427387904) (h : ∀ i, i < l.length → i < r.length → AFn env F [(gt l i).a, (gt r i).a] [] (aB (p (gt l i) (gt r i))) []) :
    AFn env 36 [aF (l.map B.row), aF (r.map B.row), .c (.clo (.func F) [])] [] (aB (eqL p l r)) [] := by
  refine afn_body Tryd.func36 rfl (by decide) ?_
  simp only [Tryd.ntmps36, Tryd.results36, List.length_cons, List.length_nil, List.cons_append, List.nil_append, Nat.reduceAdd, Nat.reduceSub, List.replicate]
  repeat' first
  | with_reducible refine awp_seq ?_
  | ((with_reducible refine awp_region ?_); refine zS ?_)
  | ((with_reducible refine AWP_c ?_); refine zcdN ?_ ?_ <;> intro hb hb2 <;> first | contradiction | (exfalso; omega) | ((try refine zH hb2 ?_); try clear hb2))
  | ((with_reducible refine awp_ret ?_); refine fin_r ?_)
  | ((with_reducible refine awp_skip ?_); refine zS ?_)
  | with_reducible refine awp_block ?_
  · rw [eqL_len (by omega)]
  refine awp_loopT (fun i : Nat => i ≤ l.length ∧ eqL p l r = eqL p (l.drop i) (r.drop i)) (fun i => l.length - i) (fun i => [(17, aI i)]) (fun _ => []) 0 ⟨by omega, rfl⟩ (by exact zwl) ?_
  rintro i ⟨h1, h2⟩
  refine zT ?_
  repeat' first
  | with_reducible refine awp_seq ?_
  | ((with_reducible refine awp_region ?_); refine zS ?_)
  | ((with_reducible refine AWP_c ?_); refine zcdD ?_ ?_ <;> intro hb hb2 <;> first | contradiction | (exfalso; omega) | ((try refine zH hb2 ?_); try clear hb2))
  | ((with_reducible refine AWP_c ?_); refine zcdM ?_ ?_ <;> intro hb <;> first | contradiction | (try refine zH hb ?_))
  | ((with_reducible refine awp_ret ?_); refine fin_r ?_)
  | ((with_reducible refine awp_skip ?_); refine zS ?_)
  | with_reducible refine awp_block ?_
  | ((with_reducible refine awp_exit ?_); refine zS ?_)
  | ((with_reducible refine CallK_id ?_); refine zcF ?_; refine ⟨_, by first | exact h i (by omega) (by omega) | fail, fun _ => rfl, fun _ => rfl, rfl, ?_⟩; try refine zS ?_)
  · rw [h2, eqL_f (by omega) (by omega) ‹p _ _ = false›]
  · exact ⟨i + 1, ⟨by omega, by rw [h2, eqL_t (by omega) (by omega) ‹p _ _ = true›]⟩, by omega, (by exact zwc 0)⟩
  · rw [h2, eqL_nil (List.drop_eq_nil_of_le (by omega)) (List.drop_eq_nil_of_le (by omega))]
theorem eqfNd_ok (F : FuncId) (p : Nd → Nd → Bool) (l r : List Nd) (hl : l.length < 4611686018427387904) (h : ∀ i, i < l.length → i < r.length → AFn env F [(gt l i).a, (gt r i).a] [] (aB (p (gt l i) (gt r i))) []) :
    AFn env 42 [aF (l.map Nd.row), aF (r.map Nd.row), .c (.clo (.func F) [])] [] (aB (eqL p l r)) [] := by
  refine afn_body Tryd.func42 rfl (by decide) ?_
  simp only [Tryd.ntmps42, Tryd.results42, List.length_cons, List.length_nil, List.cons_append, List.nil_append, Nat.reduceAdd, Nat.reduceSub, List.replicate]
  repeat' first
  | with_reducible refine awp_seq ?_
  | ((with_reducible refine awp_region ?_); refine zS ?_)
  | ((with_reducible refine AWP_c ?_); refine zcdN ?_ ?_ <;> intro hb hb2 <;> first | contradiction | (exfalso; omega) | ((try refine zH hb2 ?_); try clear hb2))
  | ((with_reducible refine awp_ret ?_); refine fin_r ?_)
  | ((with_reducible refine awp_skip ?_); refine zS ?_)
  | with_reducible refine awp_block ?_
  · rw [eqL_len (by omega)]
  refine awp_loopT (fun i : Nat => i ≤ l.length ∧ eqL p l r = eqL p (l.drop i) (r.drop i)) (fun i => l.length - i) (fun i => [(17, aI i)]) (fun _ => []) 0 ⟨by omega, rfl⟩ (by exact zwl) ?_
  rintro i ⟨h1, h2⟩
  refine zT ?_
  repeat' first
  | with_reducible refine awp_seq ?_
  | ((with_reducible refine awp_region ?_); refine zS ?_)
  | ((with_reducible refine AWP_c ?_); refine zcdD ?_ ?_ <;> intro hb hb2 <;> first | contradiction | (exfalso; omega) | ((try refine zH hb2 ?_); try clear hb2))
  | ((with_reducible refine AWP_c ?_); refine zcdM ?_ ?_ <;> intro hb <;> first | contradiction | (try refine zH hb ?_))
  | ((with_reducible refine awp_ret ?_); refine fin_r ?_)
  | ((with_reducible refine awp_skip ?_); refine zS ?_)
  | with_reducible refine awp_block ?_
  | ((with_reducible refine awp_exit ?_); refine zS ?_)
  | ((with_reducible refine CallK_id ?_); refine zcF ?_; refine ⟨_, by first | exact h i (by omega) (by omega) | fail, fun _ => rfl, fun _ => rfl, rfl, ?_⟩; try refine zS ?_)
  · rw [h2, eqL_f (by omega) (by omega) ‹p _ _ = false›]
  · exact ⟨i + 1, ⟨by omega, by rw [h2, eqL_t (by omega) (by omega) ‹p _ _ = true›]⟩, by omega, (by exact zwc 0)⟩
  · rw [h2, eqL_nil (List.drop_eq_nil_of_le (by omega)) (List.drop_eq_nil_of_le (by omega))]
theorem eqfFl_ok (F : FuncId) (p : Fl → Fl → Bool) (l r : List Fl) (hl : l.length < 4611686018427387904) (h : ∀ i, i < l.length → i < r.length → AFn env F [(gt l i).a, (gt r i).a] [] (aB (p (gt l i) (gt r i))) []) :
    AFn env 44 [aF (l.map Fl.row), aF (r.map Fl.row), .c (.clo (.func F) [])] [] (aB (eqL p l r)) [] := by
  refine afn_body Tryd.func44 rfl (by decide) ?_
  simp only [Tryd.ntmps44, Tryd.results44, List.length_cons, List.length_nil, List.cons_append, List.nil_append, Nat.reduceAdd, Nat.reduceSub, List.replicate]
  repeat' first
  | with_reducible refine awp_seq ?_
  | ((with_reducible refine awp_region ?_); refine zS ?_)
  | ((with_reducible refine AWP_c ?_); refine zcdN ?_ ?_ <;> intro hb hb2 <;> first | contradiction | (exfalso; omega) | ((try refine zH hb2 ?_); try clear hb2))
  | ((with_reducible refine awp_ret ?_); refine fin_r ?_)
  | ((with_reducible refine awp_skip ?_); refine zS ?_)
  | with_reducible refine awp_block ?_
  · rw [eqL_len (by omega)]
  refine awp_loopT (fun i : Nat => i ≤ l.length ∧ eqL p l r = eqL p (l.drop i) (r.drop i)) (fun i => l.length - i) (fun i => [(17, aI i)]) (fun _ => []) 0 ⟨by omega, rfl⟩ (by exact zwl) ?_
  rintro i ⟨h1, h2⟩
  refine zT ?_
  repeat' first
  | with_reducible refine awp_seq ?_
  | ((with_reducible refine awp_region ?_); refine zS ?_)
  | ((with_reducible refine AWP_c ?_); refine zcdD ?_ ?_ <;> intro hb hb2 <;> first | contradiction | (exfalso; omega) | ((try refine zH hb2 ?_); try clear hb2))
  | ((with_reducible refine AWP_c ?_); refine zcdM ?_ ?_ <;> intro hb <;> first | contradiction | (try refine zH hb ?_))
  | ((with_reducible refine awp_ret ?_); refine fin_r ?_)
  | ((with_reducible refine awp_skip ?_); refine zS ?_)
  | with_reducible refine awp_block ?_
  | ((with_reducible refine awp_exit ?_); refine zS ?_)
  | ((with_reducible refine CallK_id ?_); refine zcF ?_; refine ⟨_, by first | exact h i (by omega) (by omega) | fail, fun _ => rfl, fun _ => rfl, rfl, ?_⟩; try refine zS ?_)
  · rw [h2, eqL_f (by omega) (by omega) ‹p _ _ = false›]
  · exact ⟨i + 1, ⟨by omega, by rw [h2, eqL_t (by omega) (by omega) ‹p _ _ = true›]⟩, by omega, (by exact zwc 0)⟩
  · rw [h2, eqL_nil (List.drop_eq_nil_of_le (by omega)) (List.drop_eq_nil_of_le (by omega))]
def eqLk (a b : Lk) : Bool := decide (a.src = b.src) && decide (a.dst = b.dst)
theorem eqLk_ok (l r : List Lk) (hl : l.length < 4611686018427387904) : AFn env 34 [aF (l.map Lk.row), aF (r.map Lk.row)] [] (aB (eqL eqLk l r)) [] := by
  refine afn_body Tryd.func34 rfl (by decide) ?_
  simp only [Tryd.ntmps34, Tryd.results34, List.length_cons, List.length_nil, List.cons_append, List.nil_append, Nat.reduceAdd, Nat.reduceSub, List.replicate]
  repeat' first
  | with_reducible refine awp_seq ?_
  | ((with_reducible refine awp_region ?_); refine zS ?_)
  | ((with_reducible refine AWP_c ?_); refine zcdN ?_ ?_ <;> intro hb hb2 <;> first | contradiction | (exfalso; omega) | ((try refine zH hb2 ?_); try clear hb2))
  | ((with_reducible refine awp_ret ?_); refine fin_r ?_)
  | ((with_reducible refine awp_skip ?_); refine zS ?_)
  | with_reducible refine awp_block ?_
  · rw [eqL_len (by omega)]
  refine awp_loopT (fun i : Nat => i ≤ l.length ∧ eqL eqLk l r = eqL eqLk (l.drop i) (r.drop i)) (fun i => l.length - i) (fun i => [(13, aI i)]) (fun _ => []) 0 ⟨by omega, rfl⟩ (by exact zwl) ?_
  rintro i ⟨h1, h2⟩
  refine zT ?_
  repeat' first
  | with_reducible refine awp_seq ?_
  | ((with_reducible refine awp_region ?_); refine zS ?_)
  | ((with_reducible refine awp_drawnC ?_ ?_); rfl; refine zS ?_)
  | ((with_reducible refine AWP_c ?_); refine zcdD ?_ ?_ <;> intro hb hb2 <;> first | contradiction | (exfalso; omega) | ((try refine zH hb2 ?_); try clear hb2))
  | ((with_reducible refine AWP_c ?_); refine zcdM ?_ ?_ <;> intro hb <;> first | contradiction | (try refine zH hb ?_))
  | ((with_reducible refine awp_ret ?_); refine fin_r ?_)
  | ((with_reducible refine awp_skip ?_); refine zS ?_)
  | with_reducible refine awp_block ?_
  | ((with_reducible refine awp_exit ?_); refine zS ?_)
  · rw [h2, eqL_f (by omega) (by omega) ‹_ = false›]
  · exact ⟨i + 1, ⟨by omega, by rw [h2, eqL_t (by omega) (by omega) ‹_ = true›]⟩, by omega, (by exact zwc 0)⟩
  · rw [h2, eqL_nil (List.drop_eq_nil_of_le (by omega)) (List.drop_eq_nil_of_le (by omega))]
mutual
def eqT : T → T → Bool
  | .mk o n k, t => decide (o = t.op) && decide (n = t.n) && eqTs k t.kids
def eqTs : List T → List T → Bool
  | [], [] => true
  | [], _ :: _ => false
  | _ :: _, [] => false
  | a :: l, b :: r => eqT a b && eqTs l r
end
theorem eqTs_eq : ∀ l r : List T, eqTs l r = eqL eqT l r
  | [], [] => by rw [eqTs]; rfl
  | [], _ :: _ => by rw [eqTs]; rfl
  | _ :: _, [] => by rw [eqTs]; rfl
  | a :: l, b :: r => by rw [eqTs, eqL, eqTs_eq l r]
theorem eqT_eq (a b : T) : eqT a b = (decide (a.op = b.op) && decide (a.n = b.n) && eqL eqT a.kids b.kids) := by
  cases a with | mk o n k => rw [eqT, eqTs_eq]; rfl
theorem same_ok (a b : T) (ha : a.size < 4611686018427387904) : AFn env 32 [a.a, b.a] [] (aB (eqT a b)) [] := by
  generalize hn : a.size = n
  induction n using Nat.strongRecOn generalizing a b with
  | _ n ih0 =>
    have ih : ∀ x y : T, x.size < a.size → AFn env 32 [x.a, y.a] [] (aB (eqT x y)) [] := fun x y h => ih0 x.size (by omega) x y (by omega) rfl
    refine afn_body Tryd.func32 rfl (by decide) ?_
    simp only [Tryd.ntmps32, Tryd.results32, List.length_cons, List.length_nil, List.cons_append, List.nil_append, Nat.reduceAdd, Nat.reduceSub, List.replicate]
    repeat' first
    | with_reducible refine awp_seq ?_
    | ((with_reducible refine awp_region ?_); refine zS ?_)
    | ((with_reducible refine Gd_d ?_ ?_) <;> intro hb hb2 <;> first | contradiction | (exfalso; omega) | (refine zH hb2 ?_; try clear hb2))
    | ((with_reducible refine awp_ret ?_); refine fin_r ?_)
    | ((with_reducible refine CallK_id ?_); refine zcF ?_; refine ⟨_, by first | exact eqfT_ok 32 eqT a.kids b.kids (by have := a.kids_len; omega) (fun i h1 h2 => ih _ _ (by have := T.size_lt (gt_mem h1); omega)) | fail, fun _ => rfl, fun _ => rfl, rfl, ?_⟩; try refine zS ?_)
    all_goals (rw [eqT_eq]; simp [go_sem, *])
def eqNd (a b : Nd) : Bool := decide (a.kind = b.kind) && decide (a.x = b.x) && eqT a.t b.t
theorem eqNd_ok (a b : Nd) (ha : a.t.size < 4611686018427387904) : AFn env 43 [a.a, b.a] [] (aB (eqNd a b)) [] := by
  refine afn_body Tryd.func43 rfl (by decide) ?_
  simp only [Tryd.ntmps43, Tryd.results43, List.length_cons, List.length_nil, List.cons_append, List.nil_append, Nat.reduceAdd, Nat.reduceSub, List.replicate]
  repeat' first
  | with_reducible refine awp_seq ?_
  | ((with_reducible refine awp_region ?_); refine zS ?_)
  | ((with_reducible refine Gd_d ?_ ?_) <;> intro hb hb2 <;> first | contradiction | (exfalso; omega) | (refine zH hb2 ?_; try clear hb2))
  | ((with_reducible refine awp_ret ?_); refine fin_r ?_)
  | ((with_reducible refine CallK_id ?_); refine zcF ?_; refine ⟨_, by first | exact same_ok _ _ ha | fail, fun _ => rfl, fun _ => rfl, rfl, ?_⟩; try refine zS ?_)
  all_goals simp [go_sem, eqNd, *]
def eqFl (a b : Fl) : Bool := decide (a.src = b.src) && decide (a.dst = b.dst) && (a.els == b.els) && eqT a.t b.t
theorem eqFl_ok (a b : Fl) (ha : a.t.size < 4611686018427387904) : AFn env 45 [a.a, b.a] [] (aB (eqFl a b)) [] := by
  refine afn_body Tryd.func45 rfl (by decide) ?_
  simp only [Tryd.ntmps45, Tryd.results45, List.length_cons, List.length_nil, List.cons_append, List.nil_append, Nat.reduceAdd, Nat.reduceSub, List.replicate]
  repeat' first
  | with_reducible refine awp_seq ?_
  | ((with_reducible refine awp_region ?_); refine zS ?_)
  | ((with_reducible refine Gd_d ?_ ?_) <;> intro hb hb2 <;> first | contradiction | (exfalso; omega) | (refine zH hb2 ?_; try clear hb2))
  | ((with_reducible refine Gd_b ?_ ?_) <;> intro hb <;> first | contradiction | refine zH hb ?_)
  | ((with_reducible refine awp_ret ?_); refine fin_r ?_)
  | ((with_reducible refine CallK_id ?_); refine zcF ?_; refine ⟨_, by first | exact same_ok _ _ ha | fail, fun _ => rfl, fun _ => rfl, rfl, ?_⟩; try refine zS ?_)
  all_goals simp [go_sem, eqFl, *]
def Nt (n : List Nd) (f : List Fl) : A := .agg [.d (.fz (n.map Nd.row)), .d (.fz (f.map Fl.row))]
attribute [go_sem] Nt
def eqNt (n : List Nd) (f : List Fl) (n2 : List Nd) (f2 : List Fl) : Bool := eqL eqNd n n2 && eqL eqFl f f2
theorem sameNet_ok (n n2 : List Nd) (f f2 : List Fl) (h1 : Nd.sizes n < 4611686018427387904) (h2 : Fl.sizes f < 4611686018427387904) : AFn env 35 [Nt n f, Nt n2 f2] [] (aB (eqNt n f n2 f2)) [] := by
  have := Nd.len_le n
  have := Fl.len_le f
  refine afn_body Tryd.func35 rfl (by decide) ?_
  simp only [Tryd.ntmps35, Tryd.results35, List.length_cons, List.length_nil, List.cons_append, List.nil_append, Nat.reduceAdd, Nat.reduceSub, List.replicate]
  repeat' first
  | with_reducible refine awp_seq ?_
  | ((with_reducible refine awp_region ?_); refine zS ?_)
  | ((with_reducible refine Gd_b ?_ ?_) <;> intro hb <;> first | contradiction | refine zH hb ?_)
  | ((with_reducible refine awp_ret ?_); refine fin_r ?_)
  | ((with_reducible refine CallK_id ?_); refine zcF ?_; refine ⟨_, by first | exact eqfNd_ok 43 eqNd n n2 (by omega) (fun i h1 h2 => eqNd_ok _ _ (by have := Nd.size_kid (gt_mem h1); omega)) | exact eqfFl_ok 45 eqFl f f2 (by omega) (fun i h1 h2 => eqFl_ok _ _ (by have := Fl.size_kid (gt_mem h1); omega)) | fail, fun _ => rfl, fun _ => rfl, rfl, ?_⟩; try refine zS ?_)
  all_goals simp [go_sem, eqNt, *]
mutual
def eqB : B → B → Bool
  | .mk k n x y t c ks l ns fs, b => decide (k = b.kind) && decide (n = b.node) && decide (x = b.x) && decide (y = b.y) && eqT t b.t && eqL eqT c b.conds && eqL eqLk l b.links && eqNt ns fs b.nodes b.flows && eqBs ks b.kids
def eqBs : List B → List B → Bool
  | [], [] => true
  | [], _ :: _ => false
  | _ :: _, [] => false
  | a :: l, b :: r => eqB a b && eqBs l r
end
theorem eqBs_eq : ∀ l r : List B, eqBs l r = eqL eqB l r
  | [], [] => by rw [eqBs]; rfl
  | [], _ :: _ => by rw [eqBs]; rfl
  | _ :: _, [] => by rw [eqBs]; rfl
  | a :: l, b :: r => by rw [eqBs, eqL, eqBs_eq l r]
theorem eqB_eq (a b : B) : eqB a b = (decide (a.kind = b.kind) && decide (a.node = b.node) && decide (a.x = b.x) && decide (a.y = b.y) && eqT a.t b.t && eqL eqT a.conds b.conds && eqL eqLk a.links b.links && eqNt a.nodes a.flows b.nodes b.flows && eqL eqB a.kids b.kids) := by
  cases a with | mk => rw [eqB, eqBs_eq]; rfl
theorem sameB_ok (a b : B) (ha : a.size < 4611686018427387904) : AFn env 27 [a.a, b.a] [] (aB (eqB a b)) [] := by
  generalize hn : a.size = n
  induction n using Nat.strongRecOn generalizing a b with
  | _ n ih0 =>
    have ih : ∀ x y : B, x.size < a.size → AFn env 27 [x.a, y.a] [] (aB (eqB x y)) [] := fun x y h => ih0 x.size (by omega) x y (by omega) rfl
    have hz := a.size_eq
    have := T.len_le a.conds
    have := B.len_le a.kids
    refine afn_body Tryd.func27 rfl (by decide) ?_
    simp only [Tryd.ntmps27, Tryd.results27, List.length_cons, List.length_nil, List.cons_append, List.nil_append, Nat.reduceAdd, Nat.reduceSub, List.replicate]
    repeat' first
    | with_reducible refine awp_seq ?_
    | ((with_reducible refine awp_region ?_); refine zS ?_)
    | ((with_reducible refine Gd_d ?_ ?_) <;> intro hb hb2 <;> first | contradiction | (exfalso; omega) | (refine zH hb2 ?_; try clear hb2))
    | ((with_reducible refine Gd_b ?_ ?_) <;> intro hb <;> first | contradiction | refine zH hb ?_)
    | ((with_reducible refine awp_ret ?_); refine fin_r ?_)
    | ((with_reducible refine CallK_id ?_); refine zcF ?_; refine ⟨_, by first | exact same_ok _ _ (by omega) | exact eqfT_ok 32 eqT a.conds b.conds (by omega) (fun i h1 h2 => same_ok _ _ (by have := T.size_kid (gt_mem h1); omega)) | exact eqLk_ok _ _ (by omega) | exact sameNet_ok _ _ _ _ (by omega) (by omega) | exact eqfB_ok 27 eqB a.kids b.kids (by omega) (fun i h1 h2 => ih _ _ (by have := B.size_lt (gt_mem h1); omega)) | fail, fun _ => rfl, fun _ => rfl, rfl, ?_⟩; try refine zS ?_)
    all_goals (rw [eqB_eq]; simp [go_sem, *])
end Go.Eng
