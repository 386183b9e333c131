/- Each function of the program, walked over plain data: what it comes to, at all arguments. -/
import Derived.Test.YtjegmlclpecpdaaGreatDoorEc
import Derived.Test.YtjegmlclpecpdaaGreatDoorProg
import Derived.KernelRfl
namespace Go.Eng
open Go
set_option linter.unusedSimpArgs false

def dI (n : Int) : D := .sc (.int .i64 n)
def dB (b : Bool) : D := .sc (.bool b)
def aI (n : Int) : A := .c (.d (.sc (.int .i64 n)))
def aB (b : Bool) : A := .c (.d (.sc (.bool b)))
def aF (l : List (List D)) : A := .c (.d (.fz l))
def P0 : A := .c (.ptr 0 0 0 0)

inductive T
  | mk (op n : Int) (kids : List T)
def T.op : T → Int | .mk o _ _ => o
def T.n : T → Int | .mk _ n _ => n
def T.kids : T → List T | .mk _ _ k => k
mutual
def T.row : T → List D
  | .mk o n k => [dI o, dI n, .fz (T.rows k)]
def T.rows : List T → List (List D)
  | [] => []
  | t :: l => t.row :: T.rows l
end
theorem T.rows_eq (l : List T) : T.rows l = l.map T.row := by
  induction l with
  | nil => rfl
  | cons t l ih => simp [T.rows, ih]
theorem T.row_eq (t : T) : t.row = [dI t.op, dI t.n, .fz (t.kids.map T.row)] := by
  cases t with | mk o n k => simp [T.row, T.rows_eq, T.op, T.n, T.kids]
mutual
def T.size : T → Nat
  | .mk _ _ k => T.sizes k + 1
def T.sizes : List T → Nat
  | [] => 0
  | t :: l => t.size + T.sizes l
end
theorem T.size_eq (t : T) : t.size = T.sizes t.kids + 1 := by cases t; rfl
theorem T.size_kid {k : T} : ∀ {l : List T}, k ∈ l → k.size ≤ T.sizes l
  | [], h => by simp at h
  | a :: l, h => by
    simp only [T.sizes]
    rcases List.mem_cons.1 h with rfl | h
    · omega
    · have := T.size_kid h; omega
theorem T.size_lt {k t : T} (h : k ∈ t.kids) : k.size < t.size := by
  have := T.size_kid h; have := T.size_eq t; omega
theorem T.size_pos (t : T) : 0 < t.size := by rw [T.size_eq]; omega
theorem T.len_le : ∀ (l : List T), l.length ≤ T.sizes l
  | [] => by simp
  | t :: l => by have := T.len_le l; have := t.size_pos; simp only [T.sizes, List.length_cons]; omega
theorem T.kids_len (t : T) : t.kids.length < t.size := by have := T.len_le t.kids; have := T.size_eq t; omega
def T.a (t : T) : A := .agg [.d (dI t.op), .d (dI t.n), .d (.fz (t.kids.map T.row))]
def t0 : T := .mk 0 0 []
instance : Inhabited T := ⟨t0⟩

structure Nd where
  kind : Int
  x : Int
  t : T
instance : Inhabited Nd := ⟨⟨0, 0, t0⟩⟩
def Nd.row (d : Nd) : List D := [dI d.kind, dI d.x, dI d.t.op, dI d.t.n, .fz (d.t.kids.map T.row)]
structure Fl where
  src : Int
  dst : Int
  els : Bool
  t : T
instance : Inhabited Fl := ⟨⟨0, 0, false, t0⟩⟩
def Fl.row (d : Fl) : List D := [dI d.src, dI d.dst, dB d.els, dI d.t.op, dI d.t.n, .fz (d.t.kids.map T.row)]
def Nd.a (d : Nd) : A := .agg [.d (dI d.kind), .d (dI d.x), .d (dI d.t.op), .d (dI d.t.n), .d (.fz (d.t.kids.map T.row))]
def Fl.a (d : Fl) : A := .agg [.d (dI d.src), .d (dI d.dst), .d (dB d.els), .d (dI d.t.op), .d (dI d.t.n), .d (.fz (d.t.kids.map T.row))]
structure Lk where
  src : Int
  dst : Int
instance : Inhabited Lk := ⟨⟨0, 0⟩⟩
def Lk.row (d : Lk) : List D := [dI d.src, dI d.dst]
def Lk.a (d : Lk) : A := .agg [.d (dI d.src), .d (dI d.dst)]

inductive B
  | mk (kind node x y : Int) (t : T) (conds : List T) (kids : List B) (links : List Lk) (nodes : List Nd) (flows : List Fl)
def B.kind : B → Int | .mk k _ _ _ _ _ _ _ _ _ => k
def B.node : B → Int | .mk _ k _ _ _ _ _ _ _ _ => k
def B.x : B → Int | .mk _ _ k _ _ _ _ _ _ _ => k
def B.y : B → Int | .mk _ _ _ k _ _ _ _ _ _ => k
def B.t : B → T | .mk _ _ _ _ k _ _ _ _ _ => k
def B.conds : B → List T | .mk _ _ _ _ _ k _ _ _ _ => k
def B.kids : B → List B | .mk _ _ _ _ _ _ k _ _ _ => k
def B.links : B → List Lk | .mk _ _ _ _ _ _ _ k _ _ => k
def B.nodes : B → List Nd | .mk _ _ _ _ _ _ _ _ k _ => k
def B.flows : B → List Fl | .mk _ _ _ _ _ _ _ _ _ k => k
mutual
def B.row : B → List D
  | .mk k n x y t c ks l ns fs => [dI k, dI n, dI x, dI y, dI t.op, dI t.n, .fz (t.kids.map T.row), .fz (c.map T.row), .fz (B.rows ks), .fz (l.map Lk.row), .fz (ns.map Nd.row), .fz (fs.map Fl.row)]
def B.rows : List B → List (List D)
  | [] => []
  | t :: l => t.row :: B.rows l
end
theorem B.rows_eq (l : List B) : B.rows l = l.map B.row := by
  induction l with
  | nil => rfl
  | cons t l ih => simp [B.rows, ih]
def B.cs (b : B) : List D := [dI b.kind, dI b.node, dI b.x, dI b.y, dI b.t.op, dI b.t.n, .fz (b.t.kids.map T.row), .fz (b.conds.map T.row), .fz (b.kids.map B.row), .fz (b.links.map Lk.row), .fz (b.nodes.map Nd.row), .fz (b.flows.map Fl.row)]
theorem B.row_eq (b : B) : b.row = [dI b.kind, dI b.node, dI b.x, dI b.y, dI b.t.op, dI b.t.n, .fz (b.t.kids.map T.row), .fz (b.conds.map T.row), .fz (b.kids.map B.row), .fz (b.links.map Lk.row), .fz (b.nodes.map Nd.row), .fz (b.flows.map Fl.row)] := by
  cases b with | mk k n x y t c ks l ns fs => simp only [B.row, B.rows_eq, B.kind, B.node, B.x, B.y, B.t, B.conds, B.kids, B.links, B.nodes, B.flows]
def B.bs (b : B) : List C := [.d (dI b.kind), .d (dI b.node), .d (dI b.x), .d (dI b.y), .d (dI b.t.op), .d (dI b.t.n), .d (.fz (b.t.kids.map T.row)), .d (.fz (b.conds.map T.row)), .d (.fz (b.kids.map B.row)), .d (.fz (b.links.map Lk.row)), .d (.fz (b.nodes.map Nd.row)), .d (.fz (b.flows.map Fl.row))]
def B.a (b : B) : A := .agg [.d (dI b.kind), .d (dI b.node), .d (dI b.x), .d (dI b.y), .d (dI b.t.op), .d (dI b.t.n), .d (.fz (b.t.kids.map T.row)), .d (.fz (b.conds.map T.row)), .d (.fz (b.kids.map B.row)), .d (.fz (b.links.map Lk.row)), .d (.fz (b.nodes.map Nd.row)), .d (.fz (b.flows.map Fl.row))]
def b0 : B := .mk 0 0 0 0 t0 [] [] [] [] []
instance : Inhabited B := ⟨b0⟩
def Nd.sizes : List Nd → Nat
  | [] => 0
  | d :: l => d.t.size + Nd.sizes l
def Fl.sizes : List Fl → Nat
  | [] => 0
  | d :: l => d.t.size + Fl.sizes l
mutual
def B.size : B → Nat
  | .mk _ _ _ _ t c ks l ns fs => t.size + T.sizes c + l.length + Nd.sizes ns + Fl.sizes fs + B.sizes ks + 1
def B.sizes : List B → Nat
  | [] => 0
  | t :: l => t.size + B.sizes l
end
theorem B.size_eq (b : B) : b.size = b.t.size + T.sizes b.conds + b.links.length + Nd.sizes b.nodes + Fl.sizes b.flows + B.sizes b.kids + 1 := by cases b; rfl
theorem B.size_kid {k : B} : ∀ {l : List B}, k ∈ l → k.size ≤ B.sizes l
  | [], h => by simp at h
  | a :: l, h => by
    simp only [B.sizes]
    rcases List.mem_cons.1 h with rfl | h
    · omega
    · have := B.size_kid h; omega
theorem B.size_lt {k t : B} (h : k ∈ t.kids) : k.size < t.size := by
  have := B.size_kid h; have := B.size_eq t; omega
theorem B.size_pos (t : B) : 0 < t.size := by rw [B.size_eq]; omega
theorem B.len_le : ∀ (l : List B), l.length ≤ B.sizes l
  | [] => by simp
  | t :: l => by have := B.len_le l; have := t.size_pos; simp only [B.sizes, List.length_cons]; omega
theorem Nd.size_kid {k : Nd} : ∀ {l : List Nd}, k ∈ l → k.t.size ≤ Nd.sizes l
  | [], h => by simp at h
  | a :: l, h => by
    simp only [Nd.sizes]
    rcases List.mem_cons.1 h with rfl | h
    · omega
    · have := Nd.size_kid h; omega
theorem Nd.len_le : ∀ (l : List Nd), l.length ≤ Nd.sizes l
  | [] => by simp
  | t :: l => by have := Nd.len_le l; have := t.t.size_pos; simp only [Nd.sizes, List.length_cons]; omega
theorem Fl.size_kid {k : Fl} : ∀ {l : List Fl}, k ∈ l → k.t.size ≤ Fl.sizes l
  | [], h => by simp at h
  | a :: l, h => by
    simp only [Fl.sizes]
    rcases List.mem_cons.1 h with rfl | h
    · omega
    · have := Fl.size_kid h; omega
theorem Fl.len_le : ∀ (l : List Fl), l.length ≤ Fl.sizes l
  | [] => by simp
  | t :: l => by have := Fl.len_le l; have := t.t.size_pos; simp only [Fl.sizes, List.length_cons]; omega

abbrev Str := List UInt8
def dS (s : Str) : D := .sc (.string (st s))
structure Wd where
  text : Str
  kids : Int
  of : Int
  out : Int
instance : Inhabited Wd := ⟨⟨[], 0, 0, 0⟩⟩
def Wd.row (b : Wd) : List D := [dS b.text, dI b.kids, dI b.of, dI b.out]
def words : List Wd := [⟨[], 0, 0, 0⟩, ⟨[], 0, 0, 0⟩, ⟨[], 0, 0, 0⟩, ⟨[110, 101, 103], 1, 1, 1⟩, ⟨[110, 111, 116], 1, 2, 2⟩, ⟨[97, 100, 100], 2, 1, 1⟩, ⟨[115, 117, 98], 2, 1, 1⟩, ⟨[109, 117, 108], 2, 1, 1⟩,
  ⟨[100, 105, 118], 2, 1, 1⟩, ⟨[109, 111, 100], 2, 1, 1⟩, ⟨[101, 113], 2, 1, 2⟩, ⟨[108, 116], 2, 1, 2⟩, ⟨[108, 101], 2, 1, 2⟩, ⟨[97, 110, 100], 2, 2, 2⟩, ⟨[111, 114], 2, 2, 2⟩]

structure It where
  par : Int
  pos : Int
  b : B
instance : Inhabited It := ⟨⟨0, 0, b0⟩⟩
def It.row (i : It) : List D := [dI i.par, dI i.pos, dI i.b.kind, dI i.b.node, dI i.b.x, dI i.b.y, dI i.b.t.op, dI i.b.t.n, .fz (i.b.t.kids.map T.row), .fz (i.b.conds.map T.row), .fz (i.b.kids.map B.row), .fz (i.b.links.map Lk.row), .fz (i.b.nodes.map Nd.row), .fz (i.b.flows.map Fl.row)]
def It.a (i : It) : A := .agg [.d (dI i.par), .d (dI i.pos), .d (dI i.b.kind), .d (dI i.b.node), .d (dI i.b.x), .d (dI i.b.y), .d (dI i.b.t.op), .d (dI i.b.t.n), .d (.fz (i.b.t.kids.map T.row)), .d (.fz (i.b.conds.map T.row)), .d (.fz (i.b.kids.map B.row)), .d (.fz (i.b.links.map Lk.row)), .d (.fz (i.b.nodes.map Nd.row)), .d (.fz (i.b.flows.map Fl.row))]

theorem dropM {α β : Type} (f : α → β) (l : List α) (i : Nat) : (l.map f).drop i = (l.drop i).map f := (List.map_drop ..).symm
theorem renM (g : Nat → Nat) (l : List D) : renCs g (l.map .d) = l.map .d := by
  rw [renCs_eq, List.map_map]; rfl
theorem invM (sel : List Nat) : ∀ l : List D, invCs sel (l.map .d) = some (l.map .d)
  | [] => rfl
  | d :: l => by simp only [List.map_cons, invCs, invC, invM sel l]
theorem cutM (k : Nat) (l : List D) : cutCells k (l.map .d) = l.map .d := by
  rw [cutCells_eq, List.map_map]; rfl
def Rm (r : Int) : Option Blk := some (.box [.d (dI r)])
attribute [go_sem] Rm renM invM dS Wd.row cutM dropM dI dB aI aB aF T.row_eq T.a Nd.row Nd.a Fl.row Fl.a Lk.row Lk.a B.row_eq B.a It.row It.a P0
end Go.Eng
open Go Go.Proofs
namespace Go.Eng
set_option linter.unusedSimpArgs false
noncomputable def env : Env := mkEnv Tryz.prog (by kernel_rfl) (fun g => match g with | 0 => .pa (words.map Wd.row) | _ => .any) (fun g => by split <;> rfl)
theorem g0 : env.glob 0 = .pa (words.map Wd.row) := rfl
attribute [go_sem] g0

theorem t2und : env.und 2 = some (.int .i64) := by kernel_rfl
theorem t2kind : env.kind 2 = some .i64 := by kernel_rfl
theorem t2ty : env.ty 2 = none := by kernel_rfl
theorem t2agg : env.agg 2 = some false := by kernel_rfl
theorem t2size : env.size 2 = some 1 := by kernel_rfl
theorem t2inf : env.inf 2 = some (1, 8, (.int .i64 0)) := by kernel_rfl
theorem t3und : env.und 3 = some (.int .i64) := by kernel_rfl
theorem t3kind : env.kind 3 = some .i64 := by kernel_rfl
theorem t3ty : env.ty 3 = none := by kernel_rfl
theorem t3agg : env.agg 3 = some false := by kernel_rfl
theorem t3size : env.size 3 = some 1 := by kernel_rfl
theorem t3inf : env.inf 3 = some (1, 8, (.int .i64 0)) := by kernel_rfl
theorem t4und : env.und 4 = some .bool := by kernel_rfl
theorem t4bln : env.bln 4 = true := by kernel_rfl
theorem t4ty : env.ty 4 = none := by kernel_rfl
theorem t4agg : env.agg 4 = some false := by kernel_rfl
theorem t4size : env.size 4 = some 1 := by kernel_rfl
theorem t4inf : env.inf 4 = some (1, 1, (.bool false)) := by kernel_rfl
theorem t5und : env.und 5 = some (.int .u8) := by kernel_rfl
theorem t5kind : env.kind 5 = some .u8 := by kernel_rfl
theorem t5ty : env.ty 5 = none := by kernel_rfl
theorem t5agg : env.agg 5 = some false := by kernel_rfl
theorem t5size : env.size 5 = some 1 := by kernel_rfl
theorem t5inf : env.inf 5 = some (1, 1, (.int .u8 0)) := by kernel_rfl
theorem t9und : env.und 9 = some .string := by kernel_rfl
theorem t9str : env.str 9 = true := by kernel_rfl
theorem t9noInt : env.noInt 9 = true := by kernel_rfl
theorem t9ty : env.ty 9 = none := by kernel_rfl
theorem t9agg : env.agg 9 = some false := by kernel_rfl
theorem t9size : env.size 9 = some 1 := by kernel_rfl
theorem t9inf : env.inf 9 = some (1, 16, (.string ⟨#[]⟩)) := by kernel_rfl
theorem t12und : env.und 12 = some (.int .u64) := by kernel_rfl
theorem t12kind : env.kind 12 = some .u64 := by kernel_rfl
theorem t12ty : env.ty 12 = none := by kernel_rfl
theorem t12agg : env.agg 12 = some false := by kernel_rfl
theorem t12size : env.size 12 = some 1 := by kernel_rfl
theorem t12inf : env.inf 12 = some (1, 8, (.int .u64 0)) := by kernel_rfl
theorem t13isS : env.isStruct 13 = true := by kernel_rfl
theorem t13f0 : env.fld 13 0 = some (0, 9) := by kernel_rfl
theorem t13f1 : env.fld 13 1 = some (1, 12) := by kernel_rfl
theorem t13ty : env.ty 13 = none := by kernel_rfl
theorem t13agg : env.agg 13 = some true := by kernel_rfl
theorem t13size : env.size 13 = some 2 := by kernel_rfl
theorem t13inf : env.inf 13 = some (2, 24, (.agg #[(.string ⟨#[]⟩), (.int .u64 0)])) := by kernel_rfl
theorem t21und : env.und 21 = some (.int .i32) := by kernel_rfl
theorem t21kind : env.kind 21 = some .i32 := by kernel_rfl
theorem t21ty : env.ty 21 = none := by kernel_rfl
theorem t21agg : env.agg 21 = some false := by kernel_rfl
theorem t21size : env.size 21 = some 1 := by kernel_rfl
theorem t21inf : env.inf 21 = some (1, 4, (.int .i32 0)) := by kernel_rfl
theorem t22und : env.und 22 = some (.slice 24) := by kernel_rfl
theorem t22noInt : env.noInt 22 = true := by kernel_rfl
theorem t22elt : env.elt 22 = some 24 := by kernel_rfl
theorem t22ty : env.ty 22 = none := by kernel_rfl
theorem t22agg : env.agg 22 = some false := by kernel_rfl
theorem t22size : env.size 22 = some 1 := by kernel_rfl
theorem t22inf : env.inf 22 = some (1, 24, (.slice none 0 0)) := by kernel_rfl
theorem t23isS : env.isStruct 23 = true := by kernel_rfl
theorem t23f0 : env.fld 23 0 = some (0, 3) := by kernel_rfl
theorem t23f1 : env.fld 23 1 = some (1, 3) := by kernel_rfl
theorem t23f2 : env.fld 23 2 = some (2, 22) := by kernel_rfl
theorem t23ty : env.ty 23 = none := by kernel_rfl
theorem t23agg : env.agg 23 = some true := by kernel_rfl
theorem t23size : env.size 23 = some 3 := by kernel_rfl
theorem t23inf : env.inf 23 = some (3, 40, (.agg #[(.int .i64 0), (.int .i64 0), (.slice none 0 0)])) := by kernel_rfl
theorem t24isS : env.isStruct 24 = true := by kernel_rfl
theorem t24f0 : env.fld 24 0 = some (0, 3) := by kernel_rfl
theorem t24f1 : env.fld 24 1 = some (1, 3) := by kernel_rfl
theorem t24f2 : env.fld 24 2 = some (2, 22) := by kernel_rfl
theorem t24ty : env.ty 24 = none := by kernel_rfl
theorem t24agg : env.agg 24 = some true := by kernel_rfl
theorem t24size : env.size 24 = some 3 := by kernel_rfl
theorem t24inf : env.inf 24 = some (3, 40, (.agg #[(.int .i64 0), (.int .i64 0), (.slice none 0 0)])) := by kernel_rfl
theorem t25und : env.und 25 = some (.slice 32) := by kernel_rfl
theorem t25noInt : env.noInt 25 = true := by kernel_rfl
theorem t25elt : env.elt 25 = some 32 := by kernel_rfl
theorem t25ty : env.ty 25 = none := by kernel_rfl
theorem t25agg : env.agg 25 = some false := by kernel_rfl
theorem t25size : env.size 25 = some 1 := by kernel_rfl
theorem t25inf : env.inf 25 = some (1, 24, (.slice none 0 0)) := by kernel_rfl
theorem t26und : env.und 26 = some (.slice 62) := by kernel_rfl
theorem t26noInt : env.noInt 26 = true := by kernel_rfl
theorem t26elt : env.elt 26 = some 62 := by kernel_rfl
theorem t26ty : env.ty 26 = none := by kernel_rfl
theorem t26agg : env.agg 26 = some false := by kernel_rfl
theorem t26size : env.size 26 = some 1 := by kernel_rfl
theorem t26inf : env.inf 26 = some (1, 24, (.slice none 0 0)) := by kernel_rfl
theorem t27und : env.und 27 = some (.slice 50) := by kernel_rfl
theorem t27noInt : env.noInt 27 = true := by kernel_rfl
theorem t27elt : env.elt 27 = some 50 := by kernel_rfl
theorem t27ty : env.ty 27 = none := by kernel_rfl
theorem t27agg : env.agg 27 = some false := by kernel_rfl
theorem t27size : env.size 27 = some 1 := by kernel_rfl
theorem t27inf : env.inf 27 = some (1, 24, (.slice none 0 0)) := by kernel_rfl
theorem t28und : env.und 28 = some (.slice 52) := by kernel_rfl
theorem t28noInt : env.noInt 28 = true := by kernel_rfl
theorem t28elt : env.elt 28 = some 52 := by kernel_rfl
theorem t28ty : env.ty 28 = none := by kernel_rfl
theorem t28agg : env.agg 28 = some false := by kernel_rfl
theorem t28size : env.size 28 = some 1 := by kernel_rfl
theorem t28inf : env.inf 28 = some (1, 24, (.slice none 0 0)) := by kernel_rfl
theorem t29isS : env.isStruct 29 = true := by kernel_rfl
theorem t29f0 : env.fld 29 0 = some (0, 27) := by kernel_rfl
theorem t29f1 : env.fld 29 1 = some (1, 28) := by kernel_rfl
theorem t29ty : env.ty 29 = none := by kernel_rfl
theorem t29agg : env.agg 29 = some true := by kernel_rfl
theorem t29size : env.size 29 = some 2 := by kernel_rfl
theorem t29inf : env.inf 29 = some (2, 48, (.agg #[(.slice none 0 0), (.slice none 0 0)])) := by kernel_rfl
theorem t30isS : env.isStruct 30 = true := by kernel_rfl
theorem t30f0 : env.fld 30 0 = some (0, 27) := by kernel_rfl
theorem t30f1 : env.fld 30 1 = some (1, 28) := by kernel_rfl
theorem t30ty : env.ty 30 = none := by kernel_rfl
theorem t30agg : env.agg 30 = some true := by kernel_rfl
theorem t30size : env.size 30 = some 2 := by kernel_rfl
theorem t30inf : env.inf 30 = some (2, 48, (.agg #[(.slice none 0 0), (.slice none 0 0)])) := by kernel_rfl
theorem t31isS : env.isStruct 31 = true := by kernel_rfl
theorem t31f0 : env.fld 31 0 = some (0, 3) := by kernel_rfl
theorem t31f1 : env.fld 31 1 = some (1, 3) := by kernel_rfl
theorem t31f2 : env.fld 31 2 = some (2, 3) := by kernel_rfl
theorem t31f3 : env.fld 31 3 = some (3, 3) := by kernel_rfl
theorem t31f4 : env.fld 31 4 = some (4, 24) := by kernel_rfl
theorem t31f5 : env.fld 31 5 = some (7, 22) := by kernel_rfl
theorem t31f6 : env.fld 31 6 = some (8, 25) := by kernel_rfl
theorem t31f7 : env.fld 31 7 = some (9, 26) := by kernel_rfl
theorem t31f8 : env.fld 31 8 = some (10, 30) := by kernel_rfl
theorem t31ty : env.ty 31 = none := by kernel_rfl
theorem t31agg : env.agg 31 = some true := by kernel_rfl
theorem t31size : env.size 31 = some 12 := by kernel_rfl
theorem t31inf : env.inf 31 = some (12, 192, (.agg #[(.int .i64 0), (.int .i64 0), (.int .i64 0), (.int .i64 0), (.int .i64 0), (.int .i64 0), (.slice none 0 0), (.slice none 0 0), (.slice none 0 0), (.slice none 0 0), (.slice none 0 0), (.slice none 0 0)])) := by kernel_rfl
theorem t32isS : env.isStruct 32 = true := by kernel_rfl
theorem t32f0 : env.fld 32 0 = some (0, 3) := by kernel_rfl
theorem t32f1 : env.fld 32 1 = some (1, 3) := by kernel_rfl
theorem t32f2 : env.fld 32 2 = some (2, 3) := by kernel_rfl
theorem t32f3 : env.fld 32 3 = some (3, 3) := by kernel_rfl
theorem t32f4 : env.fld 32 4 = some (4, 24) := by kernel_rfl
theorem t32f5 : env.fld 32 5 = some (7, 22) := by kernel_rfl
theorem t32f6 : env.fld 32 6 = some (8, 25) := by kernel_rfl
theorem t32f7 : env.fld 32 7 = some (9, 26) := by kernel_rfl
theorem t32f8 : env.fld 32 8 = some (10, 30) := by kernel_rfl
theorem t32ty : env.ty 32 = none := by kernel_rfl
theorem t32agg : env.agg 32 = some true := by kernel_rfl
theorem t32size : env.size 32 = some 12 := by kernel_rfl
theorem t32inf : env.inf 32 = some (12, 192, (.agg #[(.int .i64 0), (.int .i64 0), (.int .i64 0), (.int .i64 0), (.int .i64 0), (.int .i64 0), (.slice none 0 0), (.slice none 0 0), (.slice none 0 0), (.slice none 0 0), (.slice none 0 0), (.slice none 0 0)])) := by kernel_rfl
theorem t34und : env.und 34 = some (.pointer 36) := by kernel_rfl
theorem t34ptr : env.ptr 34 = true := by kernel_rfl
theorem t34ty : env.ty 34 = none := by kernel_rfl
theorem t34agg : env.agg 34 = some false := by kernel_rfl
theorem t34size : env.size 34 = some 1 := by kernel_rfl
theorem t34inf : env.inf 34 = some (1, 8, (.pointer none)) := by kernel_rfl
theorem t35isS : env.isStruct 35 = true := by kernel_rfl
theorem t35f0 : env.fld 35 0 = some (0, 3) := by kernel_rfl
theorem t35seq : env.seq 35 = some 1 := by kernel_rfl
theorem t35ty : env.ty 35 = none := by kernel_rfl
theorem t35agg : env.agg 35 = some true := by kernel_rfl
theorem t35size : env.size 35 = some 1 := by kernel_rfl
theorem t35inf : env.inf 35 = some (1, 8, (.agg #[(.int .i64 0)])) := by kernel_rfl
theorem t36isS : env.isStruct 36 = true := by kernel_rfl
theorem t36f0 : env.fld 36 0 = some (0, 3) := by kernel_rfl
theorem t36seq : env.seq 36 = some 1 := by kernel_rfl
theorem t36ty : env.ty 36 = none := by kernel_rfl
theorem t36agg : env.agg 36 = some true := by kernel_rfl
theorem t36size : env.size 36 = some 1 := by kernel_rfl
theorem t36inf : env.inf 36 = some (1, 8, (.agg #[(.int .i64 0)])) := by kernel_rfl
theorem t38und : env.und 38 = some (.int .i64) := by kernel_rfl
theorem t38kind : env.kind 38 = some .i64 := by kernel_rfl
theorem t38ty : env.ty 38 = none := by kernel_rfl
theorem t38agg : env.agg 38 = some false := by kernel_rfl
theorem t38size : env.size 38 = some 1 := by kernel_rfl
theorem t38inf : env.inf 38 = some (1, 8, (.int .i64 0)) := by kernel_rfl
theorem t41und : env.und 41 = some (.slice 44) := by kernel_rfl
theorem t41noInt : env.noInt 41 = true := by kernel_rfl
theorem t41elt : env.elt 41 = some 44 := by kernel_rfl
theorem t41ty : env.ty 41 = none := by kernel_rfl
theorem t41agg : env.agg 41 = some false := by kernel_rfl
theorem t41size : env.size 41 = some 1 := by kernel_rfl
theorem t41inf : env.inf 41 = some (1, 24, (.slice none 0 0)) := by kernel_rfl
theorem t42und : env.und 42 = some (.slice 63) := by kernel_rfl
theorem t42noInt : env.noInt 42 = true := by kernel_rfl
theorem t42elt : env.elt 42 = some 63 := by kernel_rfl
theorem t42ty : env.ty 42 = none := by kernel_rfl
theorem t42agg : env.agg 42 = some false := by kernel_rfl
theorem t42size : env.size 42 = some 1 := by kernel_rfl
theorem t42inf : env.inf 42 = some (1, 24, (.slice none 0 0)) := by kernel_rfl
theorem t43isS : env.isStruct 43 = true := by kernel_rfl
theorem t43f0 : env.fld 43 0 = some (0, 3) := by kernel_rfl
theorem t43f1 : env.fld 43 1 = some (1, 3) := by kernel_rfl
theorem t43f2 : env.fld 43 2 = some (2, 3) := by kernel_rfl
theorem t43f3 : env.fld 43 3 = some (3, 3) := by kernel_rfl
theorem t43f4 : env.fld 43 4 = some (4, 24) := by kernel_rfl
theorem t43f5 : env.fld 43 5 = some (7, 22) := by kernel_rfl
theorem t43f6 : env.fld 43 6 = some (8, 41) := by kernel_rfl
theorem t43f7 : env.fld 43 7 = some (9, 42) := by kernel_rfl
theorem t43f8 : env.fld 43 8 = some (10, 30) := by kernel_rfl
theorem t43ty : env.ty 43 = none := by kernel_rfl
theorem t43agg : env.agg 43 = some true := by kernel_rfl
theorem t43size : env.size 43 = some 12 := by kernel_rfl
theorem t43inf : env.inf 43 = some (12, 192, (.agg #[(.int .i64 0), (.int .i64 0), (.int .i64 0), (.int .i64 0), (.int .i64 0), (.int .i64 0), (.slice none 0 0), (.slice none 0 0), (.slice none 0 0), (.slice none 0 0), (.slice none 0 0), (.slice none 0 0)])) := by kernel_rfl
theorem t44isS : env.isStruct 44 = true := by kernel_rfl
theorem t44f0 : env.fld 44 0 = some (0, 3) := by kernel_rfl
theorem t44f1 : env.fld 44 1 = some (1, 3) := by kernel_rfl
theorem t44f2 : env.fld 44 2 = some (2, 3) := by kernel_rfl
theorem t44f3 : env.fld 44 3 = some (3, 3) := by kernel_rfl
theorem t44f4 : env.fld 44 4 = some (4, 24) := by kernel_rfl
theorem t44f5 : env.fld 44 5 = some (7, 22) := by kernel_rfl
theorem t44f6 : env.fld 44 6 = some (8, 41) := by kernel_rfl
theorem t44f7 : env.fld 44 7 = some (9, 42) := by kernel_rfl
theorem t44f8 : env.fld 44 8 = some (10, 30) := by kernel_rfl
theorem t44ty : env.ty 44 = none := by kernel_rfl
theorem t44agg : env.agg 44 = some true := by kernel_rfl
theorem t44size : env.size 44 = some 12 := by kernel_rfl
theorem t44inf : env.inf 44 = some (12, 192, (.agg #[(.int .i64 0), (.int .i64 0), (.int .i64 0), (.int .i64 0), (.int .i64 0), (.int .i64 0), (.slice none 0 0), (.slice none 0 0), (.slice none 0 0), (.slice none 0 0), (.slice none 0 0), (.slice none 0 0)])) := by kernel_rfl
theorem t49isS : env.isStruct 49 = true := by kernel_rfl
theorem t49f0 : env.fld 49 0 = some (0, 3) := by kernel_rfl
theorem t49f1 : env.fld 49 1 = some (1, 3) := by kernel_rfl
theorem t49f2 : env.fld 49 2 = some (2, 24) := by kernel_rfl
theorem t49ty : env.ty 49 = none := by kernel_rfl
theorem t49agg : env.agg 49 = some true := by kernel_rfl
theorem t49size : env.size 49 = some 5 := by kernel_rfl
theorem t49inf : env.inf 49 = some (5, 56, (.agg #[(.int .i64 0), (.int .i64 0), (.int .i64 0), (.int .i64 0), (.slice none 0 0)])) := by kernel_rfl
theorem t50isS : env.isStruct 50 = true := by kernel_rfl
theorem t50f0 : env.fld 50 0 = some (0, 3) := by kernel_rfl
theorem t50f1 : env.fld 50 1 = some (1, 3) := by kernel_rfl
theorem t50f2 : env.fld 50 2 = some (2, 24) := by kernel_rfl
theorem t50ty : env.ty 50 = none := by kernel_rfl
theorem t50agg : env.agg 50 = some true := by kernel_rfl
theorem t50size : env.size 50 = some 5 := by kernel_rfl
theorem t50inf : env.inf 50 = some (5, 56, (.agg #[(.int .i64 0), (.int .i64 0), (.int .i64 0), (.int .i64 0), (.slice none 0 0)])) := by kernel_rfl
theorem t51isS : env.isStruct 51 = true := by kernel_rfl
theorem t51f0 : env.fld 51 0 = some (0, 3) := by kernel_rfl
theorem t51f1 : env.fld 51 1 = some (1, 3) := by kernel_rfl
theorem t51f2 : env.fld 51 2 = some (2, 4) := by kernel_rfl
theorem t51f3 : env.fld 51 3 = some (3, 24) := by kernel_rfl
theorem t51ty : env.ty 51 = none := by kernel_rfl
theorem t51agg : env.agg 51 = some true := by kernel_rfl
theorem t51size : env.size 51 = some 6 := by kernel_rfl
theorem t51inf : env.inf 51 = some (6, 64, (.agg #[(.int .i64 0), (.int .i64 0), (.bool false), (.int .i64 0), (.int .i64 0), (.slice none 0 0)])) := by kernel_rfl
theorem t52isS : env.isStruct 52 = true := by kernel_rfl
theorem t52f0 : env.fld 52 0 = some (0, 3) := by kernel_rfl
theorem t52f1 : env.fld 52 1 = some (1, 3) := by kernel_rfl
theorem t52f2 : env.fld 52 2 = some (2, 4) := by kernel_rfl
theorem t52f3 : env.fld 52 3 = some (3, 24) := by kernel_rfl
theorem t52ty : env.ty 52 = none := by kernel_rfl
theorem t52agg : env.agg 52 = some true := by kernel_rfl
theorem t52size : env.size 52 = some 6 := by kernel_rfl
theorem t52inf : env.inf 52 = some (6, 64, (.agg #[(.int .i64 0), (.int .i64 0), (.bool false), (.int .i64 0), (.int .i64 0), (.slice none 0 0)])) := by kernel_rfl
theorem t54und : env.und 54 = some (.slice 58) := by kernel_rfl
theorem t54noInt : env.noInt 54 = true := by kernel_rfl
theorem t54elt : env.elt 54 = some 58 := by kernel_rfl
theorem t54ty : env.ty 54 = none := by kernel_rfl
theorem t54agg : env.agg 54 = some false := by kernel_rfl
theorem t54size : env.size 54 = some 1 := by kernel_rfl
theorem t54inf : env.inf 54 = some (1, 24, (.slice none 0 0)) := by kernel_rfl
theorem t56ikey : env.ikey 56 = some 4 := by kernel_rfl
theorem t4zer : env.zer 4 = some (.bool false) := by kernel_rfl
theorem t56ty : env.ty 56 = none := by kernel_rfl
theorem t56agg : env.agg 56 = some false := by kernel_rfl
theorem t56size : env.size 56 = some 1 := by kernel_rfl
theorem t56inf : env.inf 56 = some (1, 8, (.map none)) := by kernel_rfl
theorem t57isS : env.isStruct 57 = true := by kernel_rfl
theorem t57f0 : env.fld 57 0 = some (0, 3) := by kernel_rfl
theorem t57f1 : env.fld 57 1 = some (1, 3) := by kernel_rfl
theorem t57f2 : env.fld 57 2 = some (2, 32) := by kernel_rfl
theorem t57ty : env.ty 57 = none := by kernel_rfl
theorem t57agg : env.agg 57 = some true := by kernel_rfl
theorem t57size : env.size 57 = some 14 := by kernel_rfl
theorem t57inf : env.inf 57 = some (14, 208, (.agg #[(.int .i64 0), (.int .i64 0), (.int .i64 0), (.int .i64 0), (.int .i64 0), (.int .i64 0), (.int .i64 0), (.int .i64 0), (.slice none 0 0), (.slice none 0 0), (.slice none 0 0), (.slice none 0 0), (.slice none 0 0), (.slice none 0 0)])) := by kernel_rfl
theorem t58isS : env.isStruct 58 = true := by kernel_rfl
theorem t58f0 : env.fld 58 0 = some (0, 3) := by kernel_rfl
theorem t58f1 : env.fld 58 1 = some (1, 3) := by kernel_rfl
theorem t58f2 : env.fld 58 2 = some (2, 32) := by kernel_rfl
theorem t58ty : env.ty 58 = none := by kernel_rfl
theorem t58agg : env.agg 58 = some true := by kernel_rfl
theorem t58size : env.size 58 = some 14 := by kernel_rfl
theorem t58inf : env.inf 58 = some (14, 208, (.agg #[(.int .i64 0), (.int .i64 0), (.int .i64 0), (.int .i64 0), (.int .i64 0), (.int .i64 0), (.int .i64 0), (.int .i64 0), (.slice none 0 0), (.slice none 0 0), (.slice none 0 0), (.slice none 0 0), (.slice none 0 0), (.slice none 0 0)])) := by kernel_rfl
theorem t61isS : env.isStruct 61 = true := by kernel_rfl
theorem t61f0 : env.fld 61 0 = some (0, 3) := by kernel_rfl
theorem t61f1 : env.fld 61 1 = some (1, 3) := by kernel_rfl
theorem t61seq : env.seq 61 = some 2 := by kernel_rfl
theorem t61ty : env.ty 61 = none := by kernel_rfl
theorem t61agg : env.agg 61 = some true := by kernel_rfl
theorem t61size : env.size 61 = some 2 := by kernel_rfl
theorem t61inf : env.inf 61 = some (2, 16, (.agg #[(.int .i64 0), (.int .i64 0)])) := by kernel_rfl
theorem t62isS : env.isStruct 62 = true := by kernel_rfl
theorem t62f0 : env.fld 62 0 = some (0, 3) := by kernel_rfl
theorem t62f1 : env.fld 62 1 = some (1, 3) := by kernel_rfl
theorem t62seq : env.seq 62 = some 2 := by kernel_rfl
theorem t62ty : env.ty 62 = none := by kernel_rfl
theorem t62agg : env.agg 62 = some true := by kernel_rfl
theorem t62size : env.size 62 = some 2 := by kernel_rfl
theorem t62inf : env.inf 62 = some (2, 16, (.agg #[(.int .i64 0), (.int .i64 0)])) := by kernel_rfl
theorem t63isS : env.isStruct 63 = true := by kernel_rfl
theorem t63f0 : env.fld 63 0 = some (0, 3) := by kernel_rfl
theorem t63f1 : env.fld 63 1 = some (1, 3) := by kernel_rfl
theorem t63seq : env.seq 63 = some 2 := by kernel_rfl
theorem t63ty : env.ty 63 = none := by kernel_rfl
theorem t63agg : env.agg 63 = some true := by kernel_rfl
theorem t63size : env.size 63 = some 2 := by kernel_rfl
theorem t63inf : env.inf 63 = some (2, 16, (.agg #[(.int .i64 0), (.int .i64 0)])) := by kernel_rfl
theorem t84isS : env.isStruct 84 = true := by kernel_rfl
theorem t84f0 : env.fld 84 0 = some (0, 3) := by kernel_rfl
theorem t84f1 : env.fld 84 1 = some (1, 3) := by kernel_rfl
theorem t84seq : env.seq 84 = some 2 := by kernel_rfl
theorem t84ty : env.ty 84 = none := by kernel_rfl
theorem t84agg : env.agg 84 = some true := by kernel_rfl
theorem t84size : env.size 84 = some 2 := by kernel_rfl
theorem t84inf : env.inf 84 = some (2, 16, (.agg #[(.int .i64 0), (.int .i64 0)])) := by kernel_rfl
theorem t85isS : env.isStruct 85 = true := by kernel_rfl
theorem t85f0 : env.fld 85 0 = some (0, 3) := by kernel_rfl
theorem t85f1 : env.fld 85 1 = some (1, 3) := by kernel_rfl
theorem t85seq : env.seq 85 = some 2 := by kernel_rfl
theorem t85ty : env.ty 85 = none := by kernel_rfl
theorem t85agg : env.agg 85 = some true := by kernel_rfl
theorem t85size : env.size 85 = some 2 := by kernel_rfl
theorem t85inf : env.inf 85 = some (2, 16, (.agg #[(.int .i64 0), (.int .i64 0)])) := by kernel_rfl
theorem t89und : env.und 89 = some (.slice 3) := by kernel_rfl
theorem t89noInt : env.noInt 89 = true := by kernel_rfl
theorem t89elt : env.elt 89 = some 3 := by kernel_rfl
theorem t89ty : env.ty 89 = none := by kernel_rfl
theorem t89agg : env.agg 89 = some false := by kernel_rfl
theorem t89size : env.size 89 = some 1 := by kernel_rfl
theorem t89inf : env.inf 89 = some (1, 24, (.slice none 0 0)) := by kernel_rfl
theorem t90und : env.und 90 = some (.slice 91) := by kernel_rfl
theorem t90noInt : env.noInt 90 = true := by kernel_rfl
theorem t90elt : env.elt 90 = some 91 := by kernel_rfl
theorem t90ty : env.ty 90 = none := by kernel_rfl
theorem t90agg : env.agg 90 = some false := by kernel_rfl
theorem t90size : env.size 90 = some 1 := by kernel_rfl
theorem t90inf : env.inf 90 = some (1, 24, (.slice none 0 0)) := by kernel_rfl
theorem t91isS : env.isStruct 91 = true := by kernel_rfl
theorem t91f0 : env.fld 91 0 = some (0, 3) := by kernel_rfl
theorem t91f1 : env.fld 91 1 = some (1, 3) := by kernel_rfl
theorem t91seq : env.seq 91 = some 2 := by kernel_rfl
theorem t91ty : env.ty 91 = none := by kernel_rfl
theorem t91agg : env.agg 91 = some true := by kernel_rfl
theorem t91size : env.size 91 = some 2 := by kernel_rfl
theorem t91inf : env.inf 91 = some (2, 16, (.agg #[(.int .i64 0), (.int .i64 0)])) := by kernel_rfl
theorem t94und : env.und 94 = some (.slice 96) := by kernel_rfl
theorem t94noInt : env.noInt 94 = true := by kernel_rfl
theorem t94elt : env.elt 94 = some 96 := by kernel_rfl
theorem t94ty : env.ty 94 = none := by kernel_rfl
theorem t94agg : env.agg 94 = some false := by kernel_rfl
theorem t94size : env.size 94 = some 1 := by kernel_rfl
theorem t94inf : env.inf 94 = some (1, 24, (.slice none 0 0)) := by kernel_rfl
theorem t96isS : env.isStruct 96 = true := by kernel_rfl
theorem t96f0 : env.fld 96 0 = some (0, 3) := by kernel_rfl
theorem t96f1 : env.fld 96 1 = some (1, 3) := by kernel_rfl
theorem t96seq : env.seq 96 = some 2 := by kernel_rfl
theorem t96ty : env.ty 96 = none := by kernel_rfl
theorem t96agg : env.agg 96 = some true := by kernel_rfl
theorem t96size : env.size 96 = some 2 := by kernel_rfl
theorem t96inf : env.inf 96 = some (2, 16, (.agg #[(.int .i64 0), (.int .i64 0)])) := by kernel_rfl
theorem t98und : env.und 98 = some (.slice 99) := by kernel_rfl
theorem t98noInt : env.noInt 98 = true := by kernel_rfl
theorem t98elt : env.elt 98 = some 99 := by kernel_rfl
theorem t98ty : env.ty 98 = none := by kernel_rfl
theorem t98agg : env.agg 98 = some false := by kernel_rfl
theorem t98size : env.size 98 = some 1 := by kernel_rfl
theorem t98inf : env.inf 98 = some (1, 24, (.slice none 0 0)) := by kernel_rfl
theorem t99isS : env.isStruct 99 = true := by kernel_rfl
theorem t99f0 : env.fld 99 0 = some (0, 3) := by kernel_rfl
theorem t99f1 : env.fld 99 1 = some (1, 3) := by kernel_rfl
theorem t99seq : env.seq 99 = some 2 := by kernel_rfl
theorem t99ty : env.ty 99 = none := by kernel_rfl
theorem t99agg : env.agg 99 = some true := by kernel_rfl
theorem t99size : env.size 99 = some 2 := by kernel_rfl
theorem t99inf : env.inf 99 = some (2, 16, (.agg #[(.int .i64 0), (.int .i64 0)])) := by kernel_rfl
theorem t107und : env.und 107 = some (.slice 4) := by kernel_rfl
theorem t107noInt : env.noInt 107 = true := by kernel_rfl
theorem t107elt : env.elt 107 = some 4 := by kernel_rfl
theorem t107ty : env.ty 107 = none := by kernel_rfl
theorem t107agg : env.agg 107 = some false := by kernel_rfl
theorem t107size : env.size 107 = some 1 := by kernel_rfl
theorem t107inf : env.inf 107 = some (1, 24, (.slice none 0 0)) := by kernel_rfl
theorem t118isS : env.isStruct 118 = true := by kernel_rfl
theorem t118f0 : env.fld 118 0 = some (0, 9) := by kernel_rfl
theorem t118f1 : env.fld 118 1 = some (1, 3) := by kernel_rfl
theorem t118f2 : env.fld 118 2 = some (2, 3) := by kernel_rfl
theorem t118f3 : env.fld 118 3 = some (3, 3) := by kernel_rfl
theorem t118ty : env.ty 118 = none := by kernel_rfl
theorem t118agg : env.agg 118 = some true := by kernel_rfl
theorem t118size : env.size 118 = some 4 := by kernel_rfl
theorem t118inf : env.inf 118 = some (4, 40, (.agg #[(.string ⟨#[]⟩), (.int .i64 0), (.int .i64 0), (.int .i64 0)])) := by kernel_rfl
theorem t119isS : env.isStruct 119 = true := by kernel_rfl
theorem t119f0 : env.fld 119 0 = some (0, 9) := by kernel_rfl
theorem t119f1 : env.fld 119 1 = some (1, 3) := by kernel_rfl
theorem t119f2 : env.fld 119 2 = some (2, 3) := by kernel_rfl
theorem t119f3 : env.fld 119 3 = some (3, 3) := by kernel_rfl
theorem t119ty : env.ty 119 = none := by kernel_rfl
theorem t119agg : env.agg 119 = some true := by kernel_rfl
theorem t119size : env.size 119 = some 4 := by kernel_rfl
theorem t119inf : env.inf 119 = some (4, 40, (.agg #[(.string ⟨#[]⟩), (.int .i64 0), (.int .i64 0), (.int .i64 0)])) := by kernel_rfl
theorem t120und : env.und 120 = some (.array 15 119) := by kernel_rfl
theorem t120arr : env.arr 120 = some (15, 119) := by kernel_rfl
theorem t120ty : env.ty 120 = none := by kernel_rfl
theorem t120agg : env.agg 120 = some true := by kernel_rfl
theorem t120size : env.size 120 = some 60 := by kernel_rfl
theorem t120inf : env.inf 120 = some (60, 600, (.agg #[(.string ⟨#[]⟩), (.int .i64 0), (.int .i64 0), (.int .i64 0), (.string ⟨#[]⟩), (.int .i64 0), (.int .i64 0), (.int .i64 0), (.string ⟨#[]⟩), (.int .i64 0), (.int .i64 0), (.int .i64 0), (.string ⟨#[]⟩), (.int .i64 0), (.int .i64 0), (.int .i64 0), (.string ⟨#[]⟩), (.int .i64 0), (.int .i64 0), (.int .i64 0), (.string ⟨#[]⟩), (.int .i64 0), (.int .i64 0), (.int .i64 0), (.string ⟨#[]⟩), (.int .i64 0), (.int .i64 0), (.int .i64 0), (.string ⟨#[]⟩), (.int .i64 0), (.int .i64 0), (.int .i64 0), (.string ⟨#[]⟩), (.int .i64 0), (.int .i64 0), (.int .i64 0), (.string ⟨#[]⟩), (.int .i64 0), (.int .i64 0), (.int .i64 0), (.string ⟨#[]⟩), (.int .i64 0), (.int .i64 0), (.int .i64 0), (.string ⟨#[]⟩), (.int .i64 0), (.int .i64 0), (.int .i64 0), (.string ⟨#[]⟩), (.int .i64 0), (.int .i64 0), (.int .i64 0), (.string ⟨#[]⟩), (.int .i64 0), (.int .i64 0), (.int .i64 0), (.string ⟨#[]⟩), (.int .i64 0), (.int .i64 0), (.int .i64 0)])) := by kernel_rfl
theorem t137und : env.und 137 = some (.int .u32) := by kernel_rfl
theorem t137kind : env.kind 137 = some .u32 := by kernel_rfl
theorem t137ty : env.ty 137 = none := by kernel_rfl
theorem t137agg : env.agg 137 = some false := by kernel_rfl
theorem t137size : env.size 137 = some 1 := by kernel_rfl
theorem t137inf : env.inf 137 = some (1, 4, (.int .u32 0)) := by kernel_rfl
theorem t141und : env.und 141 = some (.pointer 5) := by kernel_rfl
theorem t141ptr : env.ptr 141 = true := by kernel_rfl
theorem t141ty : env.ty 141 = none := by kernel_rfl
theorem t141agg : env.agg 141 = some false := by kernel_rfl
theorem t141size : env.size 141 = some 1 := by kernel_rfl
theorem t141inf : env.inf 141 = some (1, 8, (.pointer none)) := by kernel_rfl
attribute [go_sem] t2und t2kind t2ty t2agg t2size t2inf t3und t3kind t3ty t3agg t3size t3inf t4und t4bln t4ty t4agg t4size t4inf t5und t5kind t5ty t5agg t5size t5inf t9und t9str t9noInt t9ty t9agg t9size t9inf t12und t12kind t12ty t12agg t12size t12inf t13isS t13f0 t13f1 t13ty t13agg t13size t13inf t21und t21kind t21ty t21agg t21size t21inf t22und t22noInt t22elt t22ty t22agg t22size t22inf t23isS t23f0 t23f1 t23f2 t23ty t23agg t23size t23inf t24isS t24f0 t24f1 t24f2 t24ty t24agg t24size t24inf t25und t25noInt t25elt t25ty t25agg t25size t25inf t26und t26noInt t26elt t26ty t26agg t26size t26inf t27und t27noInt t27elt t27ty t27agg t27size t27inf t28und t28noInt t28elt t28ty t28agg t28size t28inf t29isS t29f0 t29f1 t29ty t29agg t29size t29inf t30isS t30f0 t30f1 t30ty t30agg t30size t30inf t31isS t31f0 t31f1 t31f2 t31f3 t31f4 t31f5 t31f6 t31f7 t31f8 t31ty t31agg t31size t31inf t32isS t32f0 t32f1 t32f2 t32f3 t32f4 t32f5 t32f6 t32f7 t32f8 t32ty t32agg t32size t32inf t34und t34ptr t34ty t34agg t34size t34inf t35isS t35f0 t35seq t35ty t35agg t35size t35inf t36isS t36f0 t36seq t36ty t36agg t36size t36inf t38und t38kind t38ty t38agg t38size t38inf t41und t41noInt t41elt t41ty t41agg t41size t41inf t42und t42noInt t42elt t42ty t42agg t42size t42inf t43isS t43f0 t43f1 t43f2 t43f3 t43f4 t43f5 t43f6 t43f7 t43f8 t43ty t43agg t43size t43inf t44isS t44f0 t44f1 t44f2 t44f3 t44f4 t44f5 t44f6 t44f7 t44f8 t44ty t44agg t44size t44inf t49isS t49f0 t49f1 t49f2 t49ty t49agg t49size t49inf t50isS t50f0 t50f1 t50f2 t50ty t50agg t50size t50inf t51isS t51f0 t51f1 t51f2 t51f3 t51ty t51agg t51size t51inf t52isS t52f0 t52f1 t52f2 t52f3 t52ty t52agg t52size t52inf t54und t54noInt t54elt t54ty t54agg t54size t54inf t56ikey t4zer t56ty t56agg t56size t56inf t57isS t57f0 t57f1 t57f2 t57ty t57agg t57size t57inf t58isS t58f0 t58f1 t58f2 t58ty t58agg t58size t58inf t61isS t61f0 t61f1 t61seq t61ty t61agg t61size t61inf t62isS t62f0 t62f1 t62seq t62ty t62agg t62size t62inf t63isS t63f0 t63f1 t63seq t63ty t63agg t63size t63inf t84isS t84f0 t84f1 t84seq t84ty t84agg t84size t84inf t85isS t85f0 t85f1 t85seq t85ty t85agg t85size t85inf t89und t89noInt t89elt t89ty t89agg t89size t89inf t90und t90noInt t90elt t90ty t90agg t90size t90inf t91isS t91f0 t91f1 t91seq t91ty t91agg t91size t91inf t94und t94noInt t94elt t94ty t94agg t94size t94inf t96isS t96f0 t96f1 t96seq t96ty t96agg t96size t96inf t98und t98noInt t98elt t98ty t98agg t98size t98inf t99isS t99f0 t99f1 t99seq t99ty t99agg t99size t99inf t107und t107noInt t107elt t107ty t107agg t107size t107inf t118isS t118f0 t118f1 t118f2 t118f3 t118ty t118agg t118size t118inf t119isS t119f0 t119f1 t119f2 t119f3 t119ty t119agg t119size t119inf t120und t120arr t120ty t120agg t120size t120inf t137und t137kind t137ty t137agg t137size t137inf t141und t141ptr t141ty t141agg t141size t141inf
end Go.Eng
open Go Go.Proofs
namespace Go.Eng
set_option linter.unusedSimpArgs false
set_option linter.unusedVariables false
set_option maxRecDepth 10000
set_option maxHeartbeats 4000000
mutual
def largeT : T → Int → Int → Bool × Int
  | .mk _ _ k, r, d => if r - 1 < 0 ∨ d > 40 ∨ k.length > 50 then (true, r - 1) else largeTs k (r - 1) (d + 1)
def largeTs : List T → Int → Int → Bool × Int
  | [], r, _ => (false, r)
  | t :: l, r, d => if (largeT t r d).1 = true then (true, (largeT t r d).2) else largeTs l (largeT t r d).2 d
end
theorem largeT_eq (t : T) (r d : Int) : largeT t r d = if r - 1 < 0 ∨ d > 40 ∨ t.kids.length > 50 then (true, r - 1) else largeTs t.kids (r - 1) (d + 1) := by
  cases t with | mk o n k => rw [largeT]; rfl
mutual
theorem largeT_le : ∀ (t : T) (r d : Int), (largeT t r d).2 ≤ r - 1 ∧ (r - (largeT t r d).2 ≤ 1 + max r 0) ∧ ((largeT t r d).1 = false → 0 ≤ (largeT t r d).2 ∧ (t.size : Int) ≤ r - (largeT t r d).2)
  | .mk o n k, r, d => by
    rw [largeT]
    split
    · refine ⟨by simp, by simp only; omega, by simp⟩
    · have := largeTs_le k (r - 1) (d + 1)
      refine ⟨by omega, by omega, fun h => ?_⟩
      have h2 := this.2.2 h
      simp only [T.size]
      omega
theorem largeTs_le : ∀ (l : List T) (r d : Int), (largeTs l r d).2 ≤ r ∧ (r - (largeTs l r d).2 ≤ 1 + max r 0) ∧ ((largeTs l r d).1 = false → (0 ≤ r → 0 ≤ (largeTs l r d).2) ∧ (T.sizes l : Int) ≤ r - (largeTs l r d).2)
  | [], r, d => by simp [largeTs, T.sizes]; omega
  | t :: l, r, d => by
    rw [largeTs]
    have h1 := largeT_le t r d
    split
    · refine ⟨by simp only; omega, by simp only; omega, by simp⟩
    · rename_i hf
      have h2 := largeTs_le l (largeT t r d).2 d
      have h3 := h1.2.2 (by simpa using hf)
      refine ⟨by omega, by omega, fun h => ?_⟩
      have h4 := h2.2.2 h
      simp only [T.sizes]
      omega
end

theorem lt_ok (t : T) (r d : Int) (hr : -4611686018427387904 < r) (hr2 : r < 4611686018427387904) (hd : 0 ≤ d) (hd2 : d ≤ 41) : AFn env 12 [t.a, P0, aI d] [some (.box [.d (dI r)])] (aB (largeT t r d).1) [some (.box [.d (dI (largeT t r d).2)])] := by
  generalize hn : t.size = n
  induction n using Nat.strongRecOn generalizing t r d with
  | _ n ih0 =>
    have ih : ∀ k r d, k.size < t.size → -4611686018427387904 < r → r < 4611686018427387904 → 0 ≤ d → d ≤ 41 → AFn env 12 [k.a, P0, aI d] [some (.box [.d (dI r)])] (aB (largeT k r d).1) [some (.box [.d (dI (largeT k r d).2)])] := fun k r d h h2 h3 h4 h5 => ih0 k.size (by omega) k r d h2 h3 h4 h5 rfl
    refine afn_body Tryz.func12 rfl (by decide) ?_
    simp only [Tryz.ntmps12, Tryz.results12, List.length_cons, List.length_nil, List.cons_append, List.nil_append, Nat.reduceAdd, Nat.reduceSub, List.replicate]
    refine awp_seq ?_
    refine awp_region ?_
    refine zT ?_
    repeat' first
    | with_reducible refine awp_seq ?_
    | ((with_reducible refine awp_region ?_); refine zS ?_)
    | ((with_reducible refine Gd_nd ?_ ?_) <;> intro hb hb2 <;> first | contradiction | (exfalso; omega) | (refine zH hb2 ?_; try clear hb2))
    | ((with_reducible refine AWP_c ?_); refine zcdT ?_)
    | ((with_reducible refine AWP_c ?_); refine zcdD ?_ ?_ <;> intro hb hb2 <;> first | contradiction | (exfalso; omega) | ((try refine zH hb2 ?_); try clear hb2))
    | ((with_reducible refine awp_ret ?_); refine fin_q ?_ ?_)
    | ((with_reducible refine awp_skip ?_); refine zS ?_)
    · rw [largeT_eq, if_pos (by omega)]
    · rw [largeT_eq, if_pos (by omega)]
    rotate_left
    · rw [largeT_eq, if_pos (by omega)]
    · rw [largeT_eq, if_pos (by omega)]
    · rw [largeT_eq, if_pos (by omega)]
    · rw [largeT_eq, if_pos (by omega)]
    refine awp_block ?_
    refine awp_loopT (fun s : Nat × Int => s.1 ≤ t.kids.length ∧ 0 ≤ s.2 ∧ s.2 ≤ r - 1 ∧ largeT t r d = largeTs (t.kids.drop s.1) s.2 (d + 1)) (fun s => t.kids.length - s.1) (fun s => [(35, aI s.1)])
      (fun s => [some (.box [.d (dI s.2)]), some (.box [.d (dI t.op), .d (dI t.n), .d (.fz (t.kids.map T.row))])]) (0, r - 1) ⟨by simp, by simp only; omega, by simp only; omega, by rw [largeT_eq, if_neg (by omega)]; rfl⟩ zwl ?_
    rintro ⟨i, r1⟩ ⟨h1, h2, h3, h4⟩
    simp only at h1 h2 h3 h4
    refine zT ?_
    repeat' first
    | with_reducible refine awp_seq ?_
    | ((with_reducible refine awp_region ?_); refine zS ?_)
    | ((with_reducible refine AWP_c ?_); refine zcdD ?_ ?_ <;> intro hb hb2 <;> first | contradiction | (exfalso; omega) | ((try refine zH hb2 ?_); try clear hb2))
    | ((with_reducible refine AWP_c ?_); refine zcdB ?_ ?_ <;> intro hb <;> first | contradiction | (try refine zH hb ?_))
    | ((with_reducible refine awp_ret ?_); refine fin_q ?_ ?_)
    | ((with_reducible refine awp_skip ?_); refine zS ?_)
    | with_reducible refine awp_block ?_
    | ((with_reducible refine awp_exit ?_); refine zS ?_)
    | ((with_reducible refine CallK_id ?_); refine zcT [0] ?_; refine ⟨_, _, by first | exact ih (gt t.kids i) _ _ (T.size_lt (gt_mem (by omega))) (by omega) (by omega) (by omega) (by omega) | fail, ?_⟩; try refine zS ?_)
    all_goals first
      | (have hi : i = t.kids.length := by omega
         subst hi
         rw [h4, List.drop_length, largeTs])
      | (have hi : i < t.kids.length := by omega
         have hl := ‹(largeT (gt t.kids i) r1 (d + 1)).1 = true›
         rw [h4, drop_gt hi, largeTs, if_pos hl])
      | (have hi : i < t.kids.length := by omega
         have hl := ‹(largeT (gt t.kids i) r1 (d + 1)).1 = false›
         have hq := largeT_le (gt t.kids i) r1 (d + 1)
         have hq2 := hq.2.2 hl
         exact ⟨(i + 1, (largeT (gt t.kids i) r1 (d + 1)).2), ⟨by simp only; omega, by simp only; omega, by simp only; omega, by rw [h4, drop_gt hi, largeTs, if_neg (by simp [hl])]⟩, by simp only; omega, zwc 2⟩)
      | trace_state
def thenL (p : Bool × Int) (f : Int → Bool × Int) : Bool × Int := if p.1 = true then (true, p.2) else f p.2
theorem thenL_t {p : Bool × Int} {f : Int → Bool × Int} (h : p.1 = true) : thenL p f = (true, p.2) := if_pos h
theorem thenL_f {p : Bool × Int} {f : Int → Bool × Int} (h : p.1 = false) : thenL p f = f p.2 := if_neg (by simp [h])
mutual
def largeB : B → Int → Int → Bool × Int
  | .mk _ _ _ _ t c ks l ns fs, r, d =>
    if r - 1 < 0 ∨ d > 40 ∨ ks.length > 120 ∨ l.length > 60 ∨ c.length > 120 ∨ ns.length > 30 ∨ fs.length > 50 then (true, r - 1) else
    thenL (largeT t (r - 1) 1) fun r => thenL (largeTs c r 1) fun r => thenL (largeTs (ns.map Nd.t) r 1) fun r => thenL (largeTs (fs.map Fl.t) r 1) fun r => largeBs ks r (d + 1)
def largeBs : List B → Int → Int → Bool × Int
  | [], r, _ => (false, r)
  | t :: l, r, d => thenL (largeB t r d) fun r => largeBs l r d
end
theorem largeB_eq (b : B) (r d : Int) : largeB b r d = if r - 1 < 0 ∨ d > 40 ∨ b.kids.length > 120 ∨ b.links.length > 60 ∨ b.conds.length > 120 ∨ b.nodes.length > 30 ∨ b.flows.length > 50 then (true, r - 1) else
    thenL (largeT b.t (r - 1) 1) fun r => thenL (largeTs b.conds r 1) fun r => thenL (largeTs (b.nodes.map Nd.t) r 1) fun r => thenL (largeTs (b.flows.map Fl.t) r 1) fun r => largeBs b.kids r (d + 1) := by
  cases b with | mk => rw [largeB]; rfl
theorem sizes_nd : ∀ l : List Nd, T.sizes (l.map Nd.t) = Nd.sizes l
  | [] => rfl
  | d :: l => by simp only [List.map_cons, T.sizes, Nd.sizes, sizes_nd l]
theorem sizes_fl : ∀ l : List Fl, T.sizes (l.map Fl.t) = Fl.sizes l
  | [] => rfl
  | d :: l => by simp only [List.map_cons, T.sizes, Fl.sizes, sizes_fl l]
mutual
theorem largeB_le : ∀ (b : B) (r d : Int), (largeB b r d).2 ≤ r - 1 ∧ (r - (largeB b r d).2 ≤ 1 + max r 0) ∧ ((largeB b r d).1 = false → 0 ≤ (largeB b r d).2 ∧ (b.size : Int) ≤ 61 * (r - (largeB b r d).2))
  | .mk k n x y t c ks l ns fs, r, d => by
    rw [largeB]
    have h1 := largeT_le t (r - 1) 1
    have h2 := largeTs_le c (largeT t (r - 1) 1).2 1
    have h3 := largeTs_le (ns.map Nd.t) (largeTs c (largeT t (r - 1) 1).2 1).2 1
    have h4 := largeTs_le (fs.map Fl.t) (largeTs (ns.map Nd.t) (largeTs c (largeT t (r - 1) 1).2 1).2 1).2 1
    have h5 := largeBs_le ks (largeTs (fs.map Fl.t) (largeTs (ns.map Nd.t) (largeTs c (largeT t (r - 1) 1).2 1).2 1).2 1).2 (d + 1)
    rw [sizes_nd] at h3
    rw [sizes_fl] at h4
    by_cases g0 : r - 1 < 0 ∨ d > 40 ∨ ks.length > 120 ∨ l.length > 60 ∨ c.length > 120 ∨ ns.length > 30 ∨ fs.length > 50
    · rw [if_pos g0]
      refine ⟨by simp, by simp only; omega, by simp⟩
    rw [if_neg g0]
    rcases Bool.eq_false_or_eq_true (largeT t (r - 1) 1).1 with g1 | g1
    · rw [thenL_t g1]; refine ⟨by simp only; omega, by simp only; omega, by simp⟩
    rw [thenL_f g1]
    have k1 := h1.2.2 g1
    rcases Bool.eq_false_or_eq_true (largeTs c (largeT t (r - 1) 1).2 1).1 with g2 | g2
    · rw [thenL_t g2]; refine ⟨by simp only; omega, by simp only; omega, by simp⟩
    rw [thenL_f g2]
    have k2 := h2.2.2 g2
    rcases Bool.eq_false_or_eq_true (largeTs (ns.map Nd.t) (largeTs c (largeT t (r - 1) 1).2 1).2 1).1 with g3 | g3
    · rw [thenL_t g3]; refine ⟨by simp only; omega, by simp only; omega, by simp⟩
    rw [thenL_f g3]
    have k3 := h3.2.2 g3
    rcases Bool.eq_false_or_eq_true (largeTs (fs.map Fl.t) (largeTs (ns.map Nd.t) (largeTs c (largeT t (r - 1) 1).2 1).2 1).2 1).1 with g4 | g4
    · rw [thenL_t g4]; refine ⟨by simp only; omega, by simp only; omega, by simp⟩
    rw [thenL_f g4]
    have k4 := h4.2.2 g4
    refine ⟨by omega, by omega, fun h => ?_⟩
    have k5 := h5.2.2 h
    simp only [B.size]
    omega
theorem largeBs_le : ∀ (l : List B) (r d : Int), (largeBs l r d).2 ≤ r ∧ (r - (largeBs l r d).2 ≤ 1 + max r 0) ∧ ((largeBs l r d).1 = false → (0 ≤ r → 0 ≤ (largeBs l r d).2) ∧ (B.sizes l : Int) ≤ 61 * (r - (largeBs l r d).2))
  | [], r, d => by simp [largeBs, B.sizes]; omega
  | t :: l, r, d => by
    rw [largeBs]
    have h1 := largeB_le t r d
    rcases Bool.eq_false_or_eq_true (largeB t r d).1 with g1 | g1
    · rw [thenL_t g1]; refine ⟨by simp only; omega, by simp only; omega, by simp⟩
    rw [thenL_f g1]
    have h2 := largeBs_le l (largeB t r d).2 d
    have h3 := h1.2.2 g1
    refine ⟨by omega, by omega, fun h => ?_⟩
    have h4 := h2.2.2 h
    simp only [B.sizes]
    omega
end
end Go.Eng
open Go Go.Proofs
namespace Go.Eng
set_option linter.unusedSimpArgs false
set_option linter.unusedVariables false
set_option maxRecDepth 10000
set_option maxHeartbeats 4000000

def K4 (b : B) (d : Int) : Int → Bool × Int := fun r => largeBs b.kids r (d + 1)
def K3 (b : B) (d : Int) : Int → Bool × Int := fun r => thenL (largeTs (b.flows.map Fl.t) r 1) (K4 b d)
def K2 (b : B) (d : Int) : Int → Bool × Int := fun r => thenL (largeTs (b.nodes.map Nd.t) r 1) (K3 b d)
def K1 (b : B) (d : Int) : Int → Bool × Int := fun r => thenL (largeTs b.conds r 1) (K2 b d)
theorem largeB_k (b : B) (r d : Int) : largeB b r d = if r - 1 < 0 ∨ d > 40 ∨ b.kids.length > 120 ∨ b.links.length > 60 ∨ b.conds.length > 120 ∨ b.nodes.length > 30 ∨ b.flows.length > 50 then (true, r - 1) else
    thenL (largeT b.t (r - 1) 1) (K1 b d) := largeB_eq b r d
theorem lTs_t {t : T} {l : List T} {r d : Int} {f : Int → Bool × Int} (h : (largeT t r d).1 = true) : thenL (largeTs (t :: l) r d) f = (true, (largeT t r d).2) := by rw [largeTs, if_pos h, thenL_t rfl]
theorem lTs_f {t : T} {l : List T} {r d : Int} {f : Int → Bool × Int} (h : (largeT t r d).1 = false) : thenL (largeTs (t :: l) r d) f = thenL (largeTs l (largeT t r d).2 d) f := by rw [largeTs, if_neg (by simp [h])]
theorem lTs_n {r d : Int} {f : Int → Bool × Int} : thenL (largeTs [] r d) f = f r := by rw [largeTs, thenL_f rfl]
set_option maxHeartbeats 40000000
theorem largeB_ok0 (b : B) (r d : Int) (hr : -4611686018427387904 < r) (hr2 : r < 4611686018427387904) (hd : 0 ≤ d) (hd2 : d ≤ 41) 
   (ih : ∀ k r d, k.size < b.size → -4611686018427387904 < r → r < 4611686018427387904 → 0 ≤ d → d ≤ 41 → AFn env 5 [k.a, P0, aI d] [some (.box [.d (dI r)])] (aB (largeB k r d).1) [some (.box [.d (dI (largeB k r d).2)])]) :
    AFn env 5 [b.a, P0, aI d] [some (.box [.d (dI r)])] (aB (largeB b r d).1) [some (.box [.d (dI (largeB b r d).2)])] := by
    refine afn_body Tryz.func5 rfl (by decide) ?_
    simp only [Tryz.ntmps5, Tryz.results5, List.length_cons, List.length_nil, List.cons_append, List.nil_append, Nat.reduceAdd, Nat.reduceSub, List.replicate]
    refine awp_seq ?_
    refine awp_region ?_
    refine zT ?_
    repeat' first
    | with_reducible refine awp_seq ?_
    | ((with_reducible refine awp_region ?_); refine zS ?_)
    | ((with_reducible refine Gd_nd ?_ ?_) <;> intro hb hb2 <;> first | contradiction | (exfalso; omega) | (refine zH hb2 ?_; try clear hb2))
    | ((with_reducible refine AWP_c ?_); refine zcdT ?_)
    | ((with_reducible refine AWP_c ?_); refine zcdB ?_ ?_ <;> intro hb <;> first | contradiction | (try refine zH hb ?_))
    | ((with_reducible refine awp_ret ?_); refine fin_q ?_ ?_)
    | ((with_reducible refine awp_skip ?_); refine zS ?_)
    | ((with_reducible refine CallK_id ?_); refine zcT [0] ?_; refine ⟨_, _, by first | exact lt_ok b.t (r - 1) 1 (by omega) (by omega) (by omega) (by omega) | fail, ?_⟩; try refine zS ?_)
    all_goals first
      | (rw [largeB_k, if_pos (by omega)]; done)
      | (rw [largeB_k, if_neg (by omega), thenL_t ‹_ = true›]; done)
      | skip
    have h0 : largeB b r d = K1 b d (largeT b.t (r - 1) 1).2 := by rw [largeB_k, if_neg (by omega), thenL_f ‹_ = false›]
    have hq := largeT_le b.t (r - 1) 1
    have hq2 := hq.2.2 ‹_ = false›
    refine awp_block ?_
    refine awp_loopT (fun s : Nat × Int => s.1 ≤ b.conds.length ∧ 0 ≤ s.2 ∧ s.2 ≤ r - 1 ∧ largeB b r d = thenL (largeTs (b.conds.drop s.1) s.2 1) (K2 b d)) (fun s => b.conds.length - s.1) (fun s => [(73, aI s.1)])
      (fun s => [some (.box [.d (dI s.2)]), some (.box b.bs)]) (0, (largeT b.t (r - 1) 1).2) ⟨by simp, by simp only; omega, by simp only; omega, by rw [h0]; rfl⟩ (wk_le (by simp only [go_sem, Bool.not_not, List.mem_singleton, forall_eq, ↓reduceIte, if_pos, rowsAt_map, wrap64, wrapu8, List.getElem?_cons_zero, List.getElem?_cons_succ, Int.reduceToNat, Nat.reduceAdd, Nat.reduceBEq, Bool.or_false, Bool.false_or, Bool.true_or, Nat.reduceSub, Nat.reduceMul, Int.reduceAdd, Int.reduceEq, Int.reduceLT, Int.reduceLE, Int.reduceNeg, Nat.reduceLT, Nat.reduceLeDiff, Nat.reduceEqDiff, B.bs]; simp) (by simp only [go_sem, Bool.not_not, List.mem_singleton, forall_eq, ↓reduceIte, if_pos, rowsAt_map, wrap64, wrapu8, List.getElem?_cons_zero, List.getElem?_cons_succ, Int.reduceToNat, Nat.reduceAdd, Nat.reduceBEq, Bool.or_false, Bool.false_or, Bool.true_or, Nat.reduceSub, Nat.reduceMul, Int.reduceAdd, Int.reduceEq, Int.reduceLT, Int.reduceLE, Int.reduceNeg, Nat.reduceLT, Nat.reduceLeDiff, Nat.reduceEqDiff, B.bs])) ?_
    rintro ⟨i, r1⟩ ⟨h1, h2, h3, h4⟩
    simp only at h1 h2 h3 h4
    clear hq hq2 h0
    simp only [go_sem, Bool.not_not, List.mem_singleton, forall_eq, ↓reduceIte, if_pos, rowsAt_map, wrap64, wrapu8, List.getElem?_cons_zero, List.getElem?_cons_succ, Int.reduceToNat, Nat.reduceAdd, Nat.reduceBEq, Bool.or_false, Bool.false_or, Bool.true_or, Nat.reduceSub, Nat.reduceMul, Int.reduceAdd, Int.reduceEq, Int.reduceLT, Int.reduceLE, Int.reduceNeg, Nat.reduceLT, Nat.reduceLeDiff, Nat.reduceEqDiff, B.bs]
    repeat' first
    | with_reducible refine awp_seq ?_
    | ((with_reducible refine awp_region ?_); refine zS ?_)
    | ((with_reducible refine AWP_c ?_); refine zcdD ?_ ?_ <;> intro hb hb2 <;> first | contradiction | (exfalso; omega) | ((try refine zH hb2 ?_); try clear hb2))
    | ((with_reducible refine AWP_c ?_); refine zcdB ?_ ?_ <;> intro hb <;> first | contradiction | (try refine zH hb ?_))
    | ((with_reducible refine awp_ret ?_); refine fin_q ?_ ?_)
    | ((with_reducible refine awp_skip ?_); refine zS ?_)
    | with_reducible refine awp_block ?_
    | ((with_reducible refine awp_exit ?_); refine zS ?_)
    | ((with_reducible refine CallK_id ?_); refine zcT [0] ?_; refine ⟨_, _, by first | exact lt_ok (gt b.conds i) r1 1 (by omega) (by omega) (by omega) (by omega) | fail, ?_⟩; try refine zS ?_)
    · have hi : i < b.conds.length := by omega
      rw [h4, drop_gt hi, lTs_t ‹_ = true›]
    · have hi : i < b.conds.length := by omega
      rw [h4, drop_gt hi, lTs_t ‹_ = true›]
    · have hi : i < b.conds.length := by omega
      have hl := ‹(largeT (gt b.conds i) r1 1).1 = false›
      have hq := largeT_le (gt b.conds i) r1 1
      have hq2 := hq.2.2 hl
      exact ⟨(i + 1, (largeT (gt b.conds i) r1 1).2), ⟨by simp only; omega, by simp only; omega, by simp only; omega, by rw [h4, drop_gt hi, lTs_f ‹_ = false›]⟩, by simp only; omega, wk_cl 2 (by decide) (by simp) (by simp only [go_sem, Bool.not_not, List.mem_singleton, forall_eq, ↓reduceIte, if_pos, rowsAt_map, wrap64, wrapu8, List.getElem?_cons_zero, List.getElem?_cons_succ, Int.reduceToNat, Nat.reduceAdd, Nat.reduceBEq, Bool.or_false, Bool.false_or, Bool.true_or, Nat.reduceSub, Nat.reduceMul, Int.reduceAdd, Int.reduceEq, Int.reduceLT, Int.reduceLE, Int.reduceNeg, Nat.reduceLT, Nat.reduceLeDiff, Nat.reduceEqDiff]; simp) (by simp only [go_sem, Bool.not_not, List.mem_singleton, forall_eq, ↓reduceIte, if_pos, rowsAt_map, wrap64, wrapu8, List.getElem?_cons_zero, List.getElem?_cons_succ, Int.reduceToNat, Nat.reduceAdd, Nat.reduceBEq, Bool.or_false, Bool.false_or, Bool.true_or, Nat.reduceSub, Nat.reduceMul, Int.reduceAdd, Int.reduceEq, Int.reduceLT, Int.reduceLE, Int.reduceNeg, Nat.reduceLT, Nat.reduceLeDiff, Nat.reduceEqDiff, B.bs])⟩
    have h0 : largeB b r d = K2 b d r1 := by
      have hi : i = b.conds.length := by omega
      subst hi
      rw [h4, List.drop_length, lTs_n]
    refine awp_loopT (fun s : Nat × Int => s.1 ≤ b.nodes.length ∧ 0 ≤ s.2 ∧ s.2 ≤ r - 1 ∧ largeB b r d = thenL (largeTs ((b.nodes.drop s.1).map Nd.t) s.2 1) (K3 b d)) (fun s => b.nodes.length - s.1) (fun s => [(85, aI s.1)])
      (fun s => [some (.box [.d (dI s.2)]), some (.box b.bs)]) (0, r1) ⟨by simp, by simp only; omega, by simp only; omega, by rw [h0]; rfl⟩ (wk_le (by simp only [go_sem, Bool.not_not, List.mem_singleton, forall_eq, ↓reduceIte, if_pos, rowsAt_map, wrap64, wrapu8, List.getElem?_cons_zero, List.getElem?_cons_succ, Int.reduceToNat, Nat.reduceAdd, Nat.reduceBEq, Bool.or_false, Bool.false_or, Bool.true_or, Nat.reduceSub, Nat.reduceMul, Int.reduceAdd, Int.reduceEq, Int.reduceLT, Int.reduceLE, Int.reduceNeg, Nat.reduceLT, Nat.reduceLeDiff, Nat.reduceEqDiff, B.bs]; simp) (by simp only [go_sem, Bool.not_not, List.mem_singleton, forall_eq, ↓reduceIte, if_pos, rowsAt_map, wrap64, wrapu8, List.getElem?_cons_zero, List.getElem?_cons_succ, Int.reduceToNat, Nat.reduceAdd, Nat.reduceBEq, Bool.or_false, Bool.false_or, Bool.true_or, Nat.reduceSub, Nat.reduceMul, Int.reduceAdd, Int.reduceEq, Int.reduceLT, Int.reduceLE, Int.reduceNeg, Nat.reduceLT, Nat.reduceLeDiff, Nat.reduceEqDiff, B.bs])) ?_
    rintro ⟨i, r1⟩ ⟨h1, h2, h3, h4⟩
    simp only at h1 h2 h3 h4
    clear h0
    simp only [go_sem, Bool.not_not, List.mem_singleton, forall_eq, ↓reduceIte, if_pos, rowsAt_map, wrap64, wrapu8, List.getElem?_cons_zero, List.getElem?_cons_succ, Int.reduceToNat, Nat.reduceAdd, Nat.reduceBEq, Bool.or_false, Bool.false_or, Bool.true_or, Nat.reduceSub, Nat.reduceMul, Int.reduceAdd, Int.reduceEq, Int.reduceLT, Int.reduceLE, Int.reduceNeg, Nat.reduceLT, Nat.reduceLeDiff, Nat.reduceEqDiff, B.bs]
    repeat' first
    | with_reducible refine awp_seq ?_
    | ((with_reducible refine awp_region ?_); refine zS ?_)
    | ((with_reducible refine AWP_c ?_); refine zcdD ?_ ?_ <;> intro hb hb2 <;> first | contradiction | (exfalso; omega) | ((try refine zH hb2 ?_); try clear hb2))
    | ((with_reducible refine AWP_c ?_); refine zcdB ?_ ?_ <;> intro hb <;> first | contradiction | (try refine zH hb ?_))
    | ((with_reducible refine awp_ret ?_); refine fin_q ?_ ?_)
    | ((with_reducible refine awp_skip ?_); refine zS ?_)
    | with_reducible refine awp_block ?_
    | ((with_reducible refine awp_exit ?_); refine zS ?_)
    | ((with_reducible refine CallK_id ?_); refine zcT [0] ?_; refine ⟨_, _, by first | exact lt_ok (gt b.nodes i).t r1 1 (by omega) (by omega) (by omega) (by omega) | fail, ?_⟩; try refine zS ?_)
    · have hi : i < b.nodes.length := by omega
      rw [h4, drop_gt hi, List.map_cons, lTs_t ‹_ = true›]
    · have hi : i < b.nodes.length := by omega
      rw [h4, drop_gt hi, List.map_cons, lTs_t ‹_ = true›]
    · have hi : i < b.nodes.length := by omega
      have hl := ‹(largeT (gt b.nodes i).t r1 1).1 = false›
      have hq := largeT_le (gt b.nodes i).t r1 1
      have hq2 := hq.2.2 hl
      exact ⟨(i + 1, (largeT (gt b.nodes i).t r1 1).2), ⟨by simp only; omega, by simp only; omega, by simp only; omega, by rw [h4, drop_gt hi, List.map_cons, lTs_f ‹_ = false›]⟩, by simp only; omega, wk_cl 2 (by decide) (by simp) (by simp only [go_sem, Bool.not_not, List.mem_singleton, forall_eq, ↓reduceIte, if_pos, rowsAt_map, wrap64, wrapu8, List.getElem?_cons_zero, List.getElem?_cons_succ, Int.reduceToNat, Nat.reduceAdd, Nat.reduceBEq, Bool.or_false, Bool.false_or, Bool.true_or, Nat.reduceSub, Nat.reduceMul, Int.reduceAdd, Int.reduceEq, Int.reduceLT, Int.reduceLE, Int.reduceNeg, Nat.reduceLT, Nat.reduceLeDiff, Nat.reduceEqDiff]; simp) (by simp only [go_sem, Bool.not_not, List.mem_singleton, forall_eq, ↓reduceIte, if_pos, rowsAt_map, wrap64, wrapu8, List.getElem?_cons_zero, List.getElem?_cons_succ, Int.reduceToNat, Nat.reduceAdd, Nat.reduceBEq, Bool.or_false, Bool.false_or, Bool.true_or, Nat.reduceSub, Nat.reduceMul, Int.reduceAdd, Int.reduceEq, Int.reduceLT, Int.reduceLE, Int.reduceNeg, Nat.reduceLT, Nat.reduceLeDiff, Nat.reduceEqDiff, B.bs])⟩
    have h0 : largeB b r d = K3 b d r1 := by
      have hi : i = b.nodes.length := by omega
      subst hi
      rw [h4, List.drop_length, List.map_nil, lTs_n]
    refine awp_loopT (fun s : Nat × Int => s.1 ≤ b.flows.length ∧ 0 ≤ s.2 ∧ s.2 ≤ r - 1 ∧ largeB b r d = thenL (largeTs ((b.flows.drop s.1).map Fl.t) s.2 1) (K4 b d)) (fun s => b.flows.length - s.1) (fun s => [(98, aI s.1)])
      (fun s => [some (.box [.d (dI s.2)]), some (.box b.bs)]) (0, r1) ⟨by simp, by simp only; omega, by simp only; omega, by rw [h0]; rfl⟩ (wk_le (by simp only [go_sem, Bool.not_not, List.mem_singleton, forall_eq, ↓reduceIte, if_pos, rowsAt_map, wrap64, wrapu8, List.getElem?_cons_zero, List.getElem?_cons_succ, Int.reduceToNat, Nat.reduceAdd, Nat.reduceBEq, Bool.or_false, Bool.false_or, Bool.true_or, Nat.reduceSub, Nat.reduceMul, Int.reduceAdd, Int.reduceEq, Int.reduceLT, Int.reduceLE, Int.reduceNeg, Nat.reduceLT, Nat.reduceLeDiff, Nat.reduceEqDiff, B.bs]; simp) (by simp only [go_sem, Bool.not_not, List.mem_singleton, forall_eq, ↓reduceIte, if_pos, rowsAt_map, wrap64, wrapu8, List.getElem?_cons_zero, List.getElem?_cons_succ, Int.reduceToNat, Nat.reduceAdd, Nat.reduceBEq, Bool.or_false, Bool.false_or, Bool.true_or, Nat.reduceSub, Nat.reduceMul, Int.reduceAdd, Int.reduceEq, Int.reduceLT, Int.reduceLE, Int.reduceNeg, Nat.reduceLT, Nat.reduceLeDiff, Nat.reduceEqDiff, B.bs])) ?_
    rintro ⟨i, r1⟩ ⟨h1, h2, h3, h4⟩
    simp only at h1 h2 h3 h4
    clear h0
    simp only [go_sem, Bool.not_not, List.mem_singleton, forall_eq, ↓reduceIte, if_pos, rowsAt_map, wrap64, wrapu8, List.getElem?_cons_zero, List.getElem?_cons_succ, Int.reduceToNat, Nat.reduceAdd, Nat.reduceBEq, Bool.or_false, Bool.false_or, Bool.true_or, Nat.reduceSub, Nat.reduceMul, Int.reduceAdd, Int.reduceEq, Int.reduceLT, Int.reduceLE, Int.reduceNeg, Nat.reduceLT, Nat.reduceLeDiff, Nat.reduceEqDiff, B.bs]
    repeat' first
    | with_reducible refine awp_seq ?_
    | ((with_reducible refine awp_region ?_); refine zS ?_)
    | ((with_reducible refine AWP_c ?_); refine zcdD ?_ ?_ <;> intro hb hb2 <;> first | contradiction | (exfalso; omega) | ((try refine zH hb2 ?_); try clear hb2))
    | ((with_reducible refine AWP_c ?_); refine zcdB ?_ ?_ <;> intro hb <;> first | contradiction | (try refine zH hb ?_))
    | ((with_reducible refine awp_ret ?_); refine fin_q ?_ ?_)
    | ((with_reducible refine awp_skip ?_); refine zS ?_)
    | with_reducible refine awp_block ?_
    | ((with_reducible refine awp_exit ?_); refine zS ?_)
    | ((with_reducible refine CallK_id ?_); refine zcT [0] ?_; refine ⟨_, _, by first | exact lt_ok (gt b.flows i).t r1 1 (by omega) (by omega) (by omega) (by omega) | fail, ?_⟩; try refine zS ?_)
    · have hi : i < b.flows.length := by omega
      rw [h4, drop_gt hi, List.map_cons, lTs_t ‹_ = true›]
    · have hi : i < b.flows.length := by omega
      rw [h4, drop_gt hi, List.map_cons, lTs_t ‹_ = true›]
    · have hi : i < b.flows.length := by omega
      have hl := ‹(largeT (gt b.flows i).t r1 1).1 = false›
      have hq := largeT_le (gt b.flows i).t r1 1
      have hq2 := hq.2.2 hl
      exact ⟨(i + 1, (largeT (gt b.flows i).t r1 1).2), ⟨by simp only; omega, by simp only; omega, by simp only; omega, by rw [h4, drop_gt hi, List.map_cons, lTs_f ‹_ = false›]⟩, by simp only; omega, wk_cl 2 (by decide) (by simp) (by simp only [go_sem, Bool.not_not, List.mem_singleton, forall_eq, ↓reduceIte, if_pos, rowsAt_map, wrap64, wrapu8, List.getElem?_cons_zero, List.getElem?_cons_succ, Int.reduceToNat, Nat.reduceAdd, Nat.reduceBEq, Bool.or_false, Bool.false_or, Bool.true_or, Nat.reduceSub, Nat.reduceMul, Int.reduceAdd, Int.reduceEq, Int.reduceLT, Int.reduceLE, Int.reduceNeg, Nat.reduceLT, Nat.reduceLeDiff, Nat.reduceEqDiff]; simp) (by simp only [go_sem, Bool.not_not, List.mem_singleton, forall_eq, ↓reduceIte, if_pos, rowsAt_map, wrap64, wrapu8, List.getElem?_cons_zero, List.getElem?_cons_succ, Int.reduceToNat, Nat.reduceAdd, Nat.reduceBEq, Bool.or_false, Bool.false_or, Bool.true_or, Nat.reduceSub, Nat.reduceMul, Int.reduceAdd, Int.reduceEq, Int.reduceLT, Int.reduceLE, Int.reduceNeg, Nat.reduceLT, Nat.reduceLeDiff, Nat.reduceEqDiff, B.bs])⟩
    have h0 : largeB b r d = K4 b d r1 := by
      have hi : i = b.flows.length := by omega
      subst hi
      rw [h4, List.drop_length, List.map_nil, lTs_n]
    refine awp_loopT (fun s : Nat × Int => s.1 ≤ b.kids.length ∧ 0 ≤ s.2 ∧ s.2 ≤ r - 1 ∧ largeB b r d = largeBs (b.kids.drop s.1) s.2 (d + 1)) (fun s => b.kids.length - s.1) (fun s => [(110, aI s.1)])
      (fun s => [some (.box [.d (dI s.2)]), some (.box b.bs)]) (0, r1) ⟨by simp, by simp only; omega, by simp only; omega, by rw [h0]; rfl⟩ (wk_le (by simp only [go_sem, Bool.not_not, List.mem_singleton, forall_eq, ↓reduceIte, if_pos, rowsAt_map, wrap64, wrapu8, List.getElem?_cons_zero, List.getElem?_cons_succ, Int.reduceToNat, Nat.reduceAdd, Nat.reduceBEq, Bool.or_false, Bool.false_or, Bool.true_or, Nat.reduceSub, Nat.reduceMul, Int.reduceAdd, Int.reduceEq, Int.reduceLT, Int.reduceLE, Int.reduceNeg, Nat.reduceLT, Nat.reduceLeDiff, Nat.reduceEqDiff, B.bs]; simp) (by simp only [go_sem, Bool.not_not, List.mem_singleton, forall_eq, ↓reduceIte, if_pos, rowsAt_map, wrap64, wrapu8, List.getElem?_cons_zero, List.getElem?_cons_succ, Int.reduceToNat, Nat.reduceAdd, Nat.reduceBEq, Bool.or_false, Bool.false_or, Bool.true_or, Nat.reduceSub, Nat.reduceMul, Int.reduceAdd, Int.reduceEq, Int.reduceLT, Int.reduceLE, Int.reduceNeg, Nat.reduceLT, Nat.reduceLeDiff, Nat.reduceEqDiff, B.bs])) ?_
    rintro ⟨i, r1⟩ ⟨h1, h2, h3, h4⟩
    simp only at h1 h2 h3 h4
    clear h0
    simp only [go_sem, Bool.not_not, List.mem_singleton, forall_eq, ↓reduceIte, if_pos, rowsAt_map, wrap64, wrapu8, List.getElem?_cons_zero, List.getElem?_cons_succ, Int.reduceToNat, Nat.reduceAdd, Nat.reduceBEq, Bool.or_false, Bool.false_or, Bool.true_or, Nat.reduceSub, Nat.reduceMul, Int.reduceAdd, Int.reduceEq, Int.reduceLT, Int.reduceLE, Int.reduceNeg, Nat.reduceLT, Nat.reduceLeDiff, Nat.reduceEqDiff, B.bs]
    repeat' first
    | with_reducible refine awp_seq ?_
    | ((with_reducible refine awp_region ?_); refine zS ?_)
    | ((with_reducible refine AWP_c ?_); refine zcdD ?_ ?_ <;> intro hb hb2 <;> first | contradiction | (exfalso; omega) | ((try refine zH hb2 ?_); try clear hb2))
    | ((with_reducible refine AWP_c ?_); refine zcdB ?_ ?_ <;> intro hb <;> first | contradiction | (try refine zH hb ?_))
    | ((with_reducible refine awp_ret ?_); refine fin_q ?_ ?_)
    | ((with_reducible refine awp_skip ?_); refine zS ?_)
    | with_reducible refine awp_block ?_
    | ((with_reducible refine awp_exit ?_); refine zS ?_)
    | ((with_reducible refine CallK_id ?_); refine zcT [0] ?_; refine ⟨_, _, by first | exact ih (gt b.kids i) r1 (d + 1) (B.size_lt (gt_mem (by omega))) (by omega) (by omega) (by omega) (by omega) | fail, ?_⟩; try refine zS ?_)
    · have hi : i < b.kids.length := by omega
      rw [h4, drop_gt hi, largeBs, thenL_t ‹_ = true›]
    · have hi : i < b.kids.length := by omega
      rw [h4, drop_gt hi, largeBs, thenL_t ‹_ = true›]
    · have hi : i < b.kids.length := by omega
      have hl := ‹(largeB (gt b.kids i) r1 (d + 1)).1 = false›
      have hq := largeB_le (gt b.kids i) r1 (d + 1)
      have hq2 := hq.2.2 hl
      exact ⟨(i + 1, (largeB (gt b.kids i) r1 (d + 1)).2), ⟨by simp only; omega, by simp only; omega, by simp only; omega, by rw [h4, drop_gt hi, largeBs, thenL_f ‹_ = false›]⟩, by simp only; omega, wk_cl 2 (by decide) (by simp) (by simp only [go_sem, Bool.not_not, List.mem_singleton, forall_eq, ↓reduceIte, if_pos, rowsAt_map, wrap64, wrapu8, List.getElem?_cons_zero, List.getElem?_cons_succ, Int.reduceToNat, Nat.reduceAdd, Nat.reduceBEq, Bool.or_false, Bool.false_or, Bool.true_or, Nat.reduceSub, Nat.reduceMul, Int.reduceAdd, Int.reduceEq, Int.reduceLT, Int.reduceLE, Int.reduceNeg, Nat.reduceLT, Nat.reduceLeDiff, Nat.reduceEqDiff]; simp) (by simp only [go_sem, Bool.not_not, List.mem_singleton, forall_eq, ↓reduceIte, if_pos, rowsAt_map, wrap64, wrapu8, List.getElem?_cons_zero, List.getElem?_cons_succ, Int.reduceToNat, Nat.reduceAdd, Nat.reduceBEq, Bool.or_false, Bool.false_or, Bool.true_or, Nat.reduceSub, Nat.reduceMul, Int.reduceAdd, Int.reduceEq, Int.reduceLT, Int.reduceLE, Int.reduceNeg, Nat.reduceLT, Nat.reduceLeDiff, Nat.reduceEqDiff, B.bs])⟩
    · have hi : i = b.kids.length := by omega
      subst hi
      rw [h4, List.drop_length, largeBs]
    · have hi : i = b.kids.length := by omega
      subst hi
      rw [h4, List.drop_length, largeBs]
theorem large_ok (b : B) (r d : Int) (hr : -4611686018427387904 < r) (hr2 : r < 4611686018427387904) (hd : 0 ≤ d) (hd2 : d ≤ 41) : AFn env 5 [b.a, P0, aI d] [some (.box [.d (dI r)])] (aB (largeB b r d).1) [some (.box [.d (dI (largeB b r d).2)])] := by
  generalize hn : b.size = n
  induction n using Nat.strongRecOn generalizing b r d with
  | _ n ih0 => exact largeB_ok0 b r d hr hr2 hd hd2 fun k r d h h2 h3 h4 h5 => ih0 k.size (by omega) k r d h2 h3 h4 h5 rfl
theorem not_large {b : B} {r : Int} (h : (largeB b r 1).1 = false) (hr : 0 ≤ r) (hr2 : r ≤ 1500) : b.size ≤ 100000 := by
  have := (largeB_le b r 1)
  have h2 := this.2.2 h
  omega
end Go.Eng
open Go Go.Proofs
namespace Go.Eng
set_option linter.unusedSimpArgs false
set_option linter.unusedVariables false
set_option maxRecDepth 10000
set_option maxHeartbeats 4000000

mutual
def B.count : B → Nat
  | .mk _ _ _ _ _ _ ks _ _ _ => B.counts ks + 1
def B.counts : List B → Nat
  | [] => 0
  | t :: l => t.count + B.counts l
end
mutual
theorem B.count_le : ∀ b : B, b.count ≤ b.size
  | .mk _ _ _ _ _ _ ks _ _ _ => by have := B.counts_le ks; simp only [B.count, B.size]; omega
theorem B.counts_le : ∀ l : List B, B.counts l ≤ B.sizes l
  | [] => by simp [B.counts]
  | t :: l => by have := B.count_le t; have := B.counts_le l; simp only [B.counts, B.sizes]; omega
end
mutual
def itemsF : B → Int → Int → Nat → List It
  | .mk k n x y t c ks l ns fs, p, q, off => ⟨p, q, .mk k n x y t c ks l ns fs⟩ :: itemsK ks off (off + 1) 0
def itemsK : List B → Nat → Nat → Nat → List It
  | [], _, _, _ => []
  | b :: l, own, off, i => itemsF b own i off ++ itemsK l own (off + b.count) (i + 1)
end
theorem itemsF_eq (b : B) (p q : Int) (off : Nat) : itemsF b p q off = ⟨p, q, b⟩ :: itemsK b.kids off (off + 1) 0 := by cases b; rw [itemsF]; rfl
mutual
theorem itemsF_len : ∀ (b : B) (p q : Int) (off : Nat), (itemsF b p q off).length = b.count
  | .mk k n x y t c ks l ns fs, p, q, off => by rw [itemsF, List.length_cons, itemsK_len ks]; simp only [B.count]
theorem itemsK_len : ∀ (l : List B) (own off i : Nat), (itemsK l own off i).length = B.counts l
  | [], _, _, _ => by simp [itemsK, B.counts]
  | b :: l, own, off, i => by rw [itemsK, List.length_append, itemsF_len b, itemsK_len l]; simp only [B.counts]
end
def Own (n : Nat) : A := .c (.own 0 0 n n)
def RwI (l : List It) : Option Blk := some (.rows 14 (l.map It.row))
attribute [go_sem] Own RwI

theorem listed_ok (b : B) (p q : Int) (l : List It) (hs : l.length + b.size ≤ 1000000) :
    AFn env 20 [Own l.length, b.a, aI p, aI q] [RwI l] (Own (l ++ itemsF b p q l.length).length) [RwI (l ++ itemsF b p q l.length)] := by
  generalize hn : b.size = n
  induction n using Nat.strongRecOn generalizing b p q l with
  | _ n ih0 =>
    have ih : ∀ (b' : B) (p q : Int) (l : List It), b'.size < b.size → l.length + b'.size ≤ 1000000 → AFn env 20 [Own l.length, b'.a, aI p, aI q] [RwI l] (Own (l ++ itemsF b' p q l.length).length) [RwI (l ++ itemsF b' p q l.length)] :=
      fun b' p q l h h2 => ih0 b'.size (by omega) b' p q l h2 rfl
    have hbz := b.size_eq
    have hpos := b.size_pos
    have hbl := B.len_le b.kids
    have e1 : l.map It.row ++ [It.row ⟨p, q, b⟩] = (l ++ [⟨p, q, b⟩] : List It).map It.row := by simp
    refine afn_body Tryz.func20 rfl (by decide) ?_
    simp only [Tryz.ntmps20, Tryz.results20, List.length_cons, List.length_nil, List.cons_append, List.nil_append, Nat.reduceAdd, Nat.reduceSub, List.replicate]
    repeat' first
    | with_reducible refine awp_seq ?_
    | ((with_reducible refine awp_region ?_); simp (maxSteps := 500000) (disch := omega) only [go_sem, Bool.not_not, List.mem_singleton, forall_eq, ↓reduceIte, if_pos, rowsAt_map, wrap64, wrapu8, List.getElem?_cons_zero, List.getElem?_cons_succ, Int.reduceToNat, Nat.reduceAdd, Nat.reduceBEq, Bool.or_false, Bool.false_or, Bool.true_or, Nat.reduceSub, Nat.reduceMul, Int.reduceAdd, Int.reduceEq, Int.reduceLT, Int.reduceLE, Int.reduceNeg, Nat.reduceLT, Nat.reduceLeDiff, Nat.reduceEqDiff, List.length_append])
    | with_reducible refine awp_block ?_
    refine awp_loopT (fun s : Nat × List It => s.1 ≤ b.kids.length ∧ s.2 ++ itemsK (b.kids.drop s.1) l.length s.2.length s.1 = l ++ itemsF b p q l.length ∧ s.2.length + B.sizes (b.kids.drop s.1) ≤ l.length + b.size) (fun s => b.kids.length - s.1) (fun s => [(0, Own s.2.length), (9, aI l.length), (17, .any), (25, aI s.1)])
      (fun s => [RwI s.2, some (.box b.bs)]) (0, l ++ [⟨p, q, b⟩]) ⟨by simp, by rw [itemsF_eq]; simp, by simp; omega⟩ (wk_cl 2 (by decide) (by simp) (by simp only [go_sem, Bool.not_not, List.mem_singleton, forall_eq, ↓reduceIte, if_pos, rowsAt_map, wrap64, wrapu8, List.getElem?_cons_zero, List.getElem?_cons_succ, Int.reduceToNat, Nat.reduceAdd, Nat.reduceBEq, Bool.or_false, Bool.false_or, Bool.true_or, Nat.reduceSub, Nat.reduceMul, Int.reduceAdd, Int.reduceEq, Int.reduceLT, Int.reduceLE, Int.reduceNeg, Nat.reduceLT, Nat.reduceLeDiff, Nat.reduceEqDiff, B.bs]; simp) (by simp only [go_sem, Bool.not_not, List.mem_singleton, forall_eq, ↓reduceIte, if_pos, rowsAt_map, wrap64, wrapu8, List.getElem?_cons_zero, List.getElem?_cons_succ, Int.reduceToNat, Nat.reduceAdd, Nat.reduceBEq, Bool.or_false, Bool.false_or, Bool.true_or, Nat.reduceSub, Nat.reduceMul, Int.reduceAdd, Int.reduceEq, Int.reduceLT, Int.reduceLE, Int.reduceNeg, Nat.reduceLT, Nat.reduceLeDiff, Nat.reduceEqDiff, B.bs]; simp [go_sem])) ?_
    rintro ⟨i, l2⟩ ⟨h1, h2, h5⟩
    simp only at h1 h2 h5
    have h3 := congrArg List.length h2
    simp only [List.length_append, itemsK_len, itemsF_len] at h3
    have h4 := b.count_le
    have hk : i < b.kids.length → l2.length + (gt b.kids i).size + B.sizes (b.kids.drop (i + 1)) ≤ l.length + b.size := fun hi => by rw [drop_gt hi, B.sizes] at h5; omega
    simp only [go_sem, Bool.not_not, List.mem_singleton, forall_eq, ↓reduceIte, if_pos, rowsAt_map, wrap64, wrapu8, List.getElem?_cons_zero, List.getElem?_cons_succ, Int.reduceToNat, Nat.reduceAdd, Nat.reduceBEq, Bool.or_false, Bool.false_or, Bool.true_or, Nat.reduceSub, Nat.reduceMul, Int.reduceAdd, Int.reduceEq, Int.reduceLT, Int.reduceLE, Int.reduceNeg, Nat.reduceLT, Nat.reduceLeDiff, Nat.reduceEqDiff, B.bs]
    repeat' first
    | with_reducible refine awp_seq ?_
    | ((with_reducible refine awp_region ?_); refine zS ?_)
    | ((with_reducible refine AWP_c ?_); refine zcdD ?_ ?_ <;> intro hb hb2 <;> first | contradiction | (exfalso; omega) | ((try refine zH hb2 ?_); try clear hb2))
    | ((with_reducible refine awp_skip ?_); refine zS ?_)
    | with_reducible refine awp_block ?_
    | ((with_reducible refine awp_exit ?_); refine zS ?_)
    | ((with_reducible refine CallK_id ?_); refine zcT [0] ?_; refine ⟨_, _, by first | exact ih (gt b.kids i) l.length i l2 (B.size_lt (gt_mem (by omega))) (by have := hk (by omega); omega) | fail, ?_⟩; try refine zS ?_)
    · have hi : i < b.kids.length := by omega
      have hk1 := hk hi
      have hc := (gt b.kids i).count_le
      exact ⟨(i + 1, l2 ++ itemsF (gt b.kids i) l.length i l2.length), ⟨by simp only; omega, by rw [← h2, drop_gt hi, itemsK]; simp [itemsF_len], by simp only [List.length_append, itemsF_len]; omega⟩, by simp only; omega, wk_cl 2 (by decide) (by simp) (by simp only [go_sem, Bool.not_not, List.mem_singleton, forall_eq, ↓reduceIte, if_pos, rowsAt_map, wrap64, wrapu8, List.getElem?_cons_zero, List.getElem?_cons_succ, Int.reduceToNat, Nat.reduceAdd, Nat.reduceBEq, Bool.or_false, Bool.false_or, Bool.true_or, Nat.reduceSub, Nat.reduceMul, Int.reduceAdd, Int.reduceEq, Int.reduceLT, Int.reduceLE, Int.reduceNeg, Nat.reduceLT, Nat.reduceLeDiff, Nat.reduceEqDiff, B.bs]; simp) (by simp only [go_sem, Bool.not_not, List.mem_singleton, forall_eq, ↓reduceIte, if_pos, rowsAt_map, wrap64, wrapu8, List.getElem?_cons_zero, List.getElem?_cons_succ, Int.reduceToNat, Nat.reduceAdd, Nat.reduceBEq, Bool.or_false, Bool.false_or, Bool.true_or, Nat.reduceSub, Nat.reduceMul, Int.reduceAdd, Int.reduceEq, Int.reduceLT, Int.reduceLE, Int.reduceNeg, Nat.reduceLT, Nat.reduceLeDiff, Nat.reduceEqDiff, B.bs])⟩
    · have hi : i = b.kids.length := by omega
      subst hi
      rw [List.drop_length, itemsK, List.append_nil] at h2
      refine awp_ret ?_
      refine fin_q ?_ ?_ (h3 := rfl)
      · rw [h2, List.length_append]
      · rw [h2]
theorem listed_nil (b : B) (hs : b.size ≤ 1000000) : AFn env 20 [.c .nils, b.a, aI (-1), aI 0] [] (aF ((itemsF b (-1) 0 0).map It.row)) [] := by
  have h := listed_ok b (-1) 0 [] (by simp; omega)
  exact afn_virt (s := 14) (rty := none) (by decide) h rfl rfl (by simp [go_sem, frA, mrg, subR]; rfl) rfl
theorem items_ok (b : B) (hs : b.size ≤ 1000000) : AFn env 14 [b.a] [] (aF ((itemsF b (-1) 0 0).map It.row)) [] := by
  refine afn_body Tryz.func14 rfl (by decide) ?_
  simp only [Tryz.ntmps14, Tryz.results14, List.length_cons, List.length_nil, List.cons_append, List.nil_append, Nat.reduceAdd, Nat.reduceSub, List.replicate]
  repeat' first
  | with_reducible refine awp_seq ?_
  | ((with_reducible refine awp_region ?_); refine zS ?_)
  refine CallK_id ?_
  refine callP ⟨_, rfl⟩ rfl rfl ⟨_, listed_nil b hs, fun _ => rfl, fun _ => rfl, rfl, ?_⟩
  refine zT ?_
  repeat' first
  | ((with_reducible refine awp_ret ?_); refine fin_r ?_)
  rfl
theorem size_ok (b : B) (hs : b.size ≤ 1000000) : AFn env 13 [b.a] [] (aI b.count) [] := by
  refine afn_body Tryz.func13 rfl (by decide) ?_
  simp only [Tryz.ntmps13, Tryz.results13, List.length_cons, List.length_nil, List.cons_append, List.nil_append, Nat.reduceAdd, Nat.reduceSub, List.replicate]
  repeat' first
  | with_reducible refine awp_seq ?_
  | ((with_reducible refine awp_region ?_); refine zS ?_)
  | ((with_reducible refine awp_ret ?_); refine fin_r ?_)
  | ((with_reducible refine CallK_id ?_); refine zcF ?_; refine ⟨_, by first | exact items_ok b hs | fail, fun _ => rfl, fun _ => rfl, rfl, ?_⟩; try refine zS ?_)
  simp [go_sem, itemsF_len]
def Own1 (n : Nat) : A := .c (.own 1 0 n n)
attribute [go_sem] Own1
mutual
theorem itemsF_size : ∀ (b : B) (p q : Int) (off : Nat), ∀ x ∈ itemsF b p q off, x.b.size ≤ b.size
  | .mk k n x y t c ks l ns fs, p, q, off, z, hz => by
    rw [itemsF] at hz
    rcases List.mem_cons.1 hz with rfl | h
    · exact Nat.le_refl _
    · have := itemsK_size ks _ _ _ z h
      simp only [B.size]; omega
theorem itemsK_size : ∀ (l : List B) (own off i : Nat), ∀ x ∈ itemsK l own off i, x.b.size ≤ B.sizes l
  | [], _, _, _, x, h => by simp [itemsK] at h
  | b :: l, own, off, i, x, h => by
    rw [itemsK] at h
    simp only [B.sizes]
    rcases List.mem_append.1 h with h | h
    · have := itemsF_size b _ _ _ x h; omega
    · have := itemsK_size l _ _ _ x h; omega
end
end Go.Eng
open Go Go.Proofs
namespace Go.Eng
set_option linter.unusedSimpArgs false
set_option linter.unusedVariables false
set_option maxRecDepth 10000
set_option maxHeartbeats 4000000

def outB (b : B) (k l : Nat) : Option Blk := some (.box [.d (dI b.kind), .d (dI b.node), .d (dI b.x), .d (dI b.y), .d (dI b.t.op), .d (dI b.t.n), .d (.fz (b.t.kids.map T.row)), .d (.fz (b.conds.map T.row)), .own 3 0 k k, .own 4 0 l l, .d (.fz (b.nodes.map Nd.row)), .d (.fz (b.flows.map Fl.row))])
def zB : Option Blk := some (.box [.d (dI 0), .d (dI 0), .d (dI 0), .d (dI 0), .d (dI 0), .d (dI 0), .nils, .nils, .nils, .nils, .nils, .nils])
def RwB (l : List B) : Option Blk := some (.rows 12 (l.map B.row))
def RwL (l : List Lk) : Option Blk := some (.rows 2 (l.map Lk.row))
attribute [go_sem] outB zB RwB RwL
theorem take_gt {α : Type} [Inhabited α] {l : List α} {i : Nat} (h : i < l.length) : l.take (i + 1) = l.take i ++ [gt l i] := by
  rw [List.take_succ_eq_append_getElem h]; simp [gt, List.getD, h]
theorem ref_ok (b : B) (hs : b.size ≤ 1000000) : AFn env 9 [b.a] [] b.a [] := by
  generalize hn : b.size = n
  induction n using Nat.strongRecOn generalizing b with
  | _ n ih0 =>
    have ih : ∀ (k : B), k.size < b.size → AFn env 9 [k.a] [] k.a [] := fun k h => ih0 k.size (by omega) k (by omega) rfl
    have hbz := b.size_eq
    have hbl := B.len_le b.kids
    refine afn_body Tryz.func9 rfl (by decide) ?_
    simp only [Tryz.ntmps9, Tryz.results9, List.length_cons, List.length_nil, List.cons_append, List.nil_append, Nat.reduceAdd, Nat.reduceSub, List.replicate]
    repeat' first
    | with_reducible refine awp_seq ?_
    | ((with_reducible refine awp_region ?_); refine zS ?_)
    | with_reducible refine awp_block ?_
    refine awp_wk (wk_virtB none (i := 2) (j := 8) (s := 12) (by decide) rfl rfl) ?_
    refine awp_wk (wk_virtB none (i := 2) (j := 9) (s := 2) (by decide) rfl rfl) ?_
    refine awp_loopT (fun i : Nat => i ≤ b.kids.length) (fun i => b.kids.length - i) (fun i => [(26, aI i)]) (fun i => [some (.box b.bs), zB, outB b i 0, RwB (b.kids.take i), RwL []]) 0 (by omega)
      (wk_le (by simp only [go_sem, Bool.not_not, List.mem_singleton, forall_eq, ↓reduceIte, if_pos, rowsAt_map, wrap64, wrapu8, List.getElem?_cons_zero, List.getElem?_cons_succ, Int.reduceToNat, Nat.reduceAdd, Nat.reduceBEq, Bool.or_false, Bool.false_or, Bool.true_or, Nat.reduceSub, Nat.reduceMul, Int.reduceAdd, Int.reduceEq, Int.reduceLT, Int.reduceLE, Int.reduceNeg, Nat.reduceLT, Nat.reduceLeDiff, Nat.reduceEqDiff, B.bs]; simp) (by simp only [go_sem, Bool.not_not, List.mem_singleton, forall_eq, ↓reduceIte, if_pos, rowsAt_map, wrap64, wrapu8, List.getElem?_cons_zero, List.getElem?_cons_succ, Int.reduceToNat, Nat.reduceAdd, Nat.reduceBEq, Bool.or_false, Bool.false_or, Bool.true_or, Nat.reduceSub, Nat.reduceMul, Int.reduceAdd, Int.reduceEq, Int.reduceLT, Int.reduceLE, Int.reduceNeg, Nat.reduceLT, Nat.reduceLeDiff, Nat.reduceEqDiff, B.bs]; simp [go_sem])) ?_
    rintro i h1
    have hlen : (List.take i b.kids).length = i := by simp; omega
    simp only [go_sem, Bool.not_not, List.mem_singleton, forall_eq, ↓reduceIte, if_pos, rowsAt_map, wrap64, wrapu8, List.getElem?_cons_zero, List.getElem?_cons_succ, Int.reduceToNat, Nat.reduceAdd, Nat.reduceBEq, Bool.or_false, Bool.false_or, Bool.true_or, Nat.reduceSub, Nat.reduceMul, Int.reduceAdd, Int.reduceEq, Int.reduceLT, Int.reduceLE, Int.reduceNeg, Nat.reduceLT, Nat.reduceLeDiff, Nat.reduceEqDiff, B.bs]
    repeat' first
    | with_reducible refine awp_seq ?_
    | ((with_reducible refine awp_region ?_); simp (maxSteps := 500000) (disch := omega) only [go_sem, Bool.not_not, List.mem_singleton, forall_eq, ↓reduceIte, if_pos, rowsAt_map, wrap64, wrapu8, List.getElem?_cons_zero, List.getElem?_cons_succ, Int.reduceToNat, Nat.reduceAdd, Nat.reduceBEq, Bool.or_false, Bool.false_or, Bool.true_or, Nat.reduceSub, Nat.reduceMul, Int.reduceAdd, Int.reduceEq, Int.reduceLT, Int.reduceLE, Int.reduceNeg, Nat.reduceLT, Nat.reduceLeDiff, Nat.reduceEqDiff, hlen])
    | ((with_reducible refine AWP_c ?_); refine cond_d (by simp (maxSteps := 500000) (disch := omega) only [go_sem, Bool.not_not, List.mem_singleton, forall_eq, ↓reduceIte, if_pos, rowsAt_map, wrap64, wrapu8, List.getElem?_cons_zero, List.getElem?_cons_succ, Int.reduceToNat, Nat.reduceAdd, Nat.reduceBEq, Bool.or_false, Bool.false_or, Bool.true_or, Nat.reduceSub, Nat.reduceMul, Int.reduceAdd, Int.reduceEq, Int.reduceLT, Int.reduceLE, Int.reduceNeg, Nat.reduceLT, Nat.reduceLeDiff, Nat.reduceEqDiff, hlen]; first | done | rfl) ?_ ?_ <;> intro hb hb2 <;> first | contradiction | (exfalso; omega) | ((try simp (maxSteps := 500000) (disch := omega) only [go_sem, Bool.not_not, List.mem_singleton, forall_eq, ↓reduceIte, if_pos, rowsAt_map, wrap64, wrapu8, List.getElem?_cons_zero, List.getElem?_cons_succ, Int.reduceToNat, Nat.reduceAdd, Nat.reduceBEq, Bool.or_false, Bool.false_or, Bool.true_or, Nat.reduceSub, Nat.reduceMul, Int.reduceAdd, Int.reduceEq, Int.reduceLT, Int.reduceLE, Int.reduceNeg, Nat.reduceLT, Nat.reduceLeDiff, Nat.reduceEqDiff, hlen, hb2]); try clear hb2))
    | ((with_reducible refine awp_skip ?_); simp (maxSteps := 500000) (disch := omega) only [go_sem, Bool.not_not, List.mem_singleton, forall_eq, ↓reduceIte, if_pos, rowsAt_map, wrap64, wrapu8, List.getElem?_cons_zero, List.getElem?_cons_succ, Int.reduceToNat, Nat.reduceAdd, Nat.reduceBEq, Bool.or_false, Bool.false_or, Bool.true_or, Nat.reduceSub, Nat.reduceMul, Int.reduceAdd, Int.reduceEq, Int.reduceLT, Int.reduceLE, Int.reduceNeg, Nat.reduceLT, Nat.reduceLeDiff, Nat.reduceEqDiff, hlen])
    | with_reducible refine awp_block ?_
    | ((with_reducible refine awp_exit ?_); simp (maxSteps := 500000) (disch := omega) only [go_sem, Bool.not_not, List.mem_singleton, forall_eq, ↓reduceIte, if_pos, rowsAt_map, wrap64, wrapu8, List.getElem?_cons_zero, List.getElem?_cons_succ, Int.reduceToNat, Nat.reduceAdd, Nat.reduceBEq, Bool.or_false, Bool.false_or, Bool.true_or, Nat.reduceSub, Nat.reduceMul, Int.reduceAdd, Int.reduceEq, Int.reduceLT, Int.reduceLE, Int.reduceNeg, Nat.reduceLT, Nat.reduceLeDiff, Nat.reduceEqDiff, hlen])
    · refine awp_drawF [false, false, false, true] [] rfl ?_
      refine zT ?_
      repeat' first
      | ((with_reducible refine awp_region ?_); simp (maxSteps := 500000) (disch := omega) only [go_sem, Bool.not_not, List.mem_singleton, forall_eq, ↓reduceIte, if_pos, rowsAt_map, wrap64, wrapu8, List.getElem?_cons_zero, List.getElem?_cons_succ, Int.reduceToNat, Nat.reduceAdd, Nat.reduceBEq, Bool.or_false, Bool.false_or, Bool.true_or, Nat.reduceSub, Nat.reduceMul, Int.reduceAdd, Int.reduceEq, Int.reduceLT, Int.reduceLE, Int.reduceNeg, Nat.reduceLT, Nat.reduceLeDiff, Nat.reduceEqDiff, hlen])
      | ((with_reducible refine DStep_id ?_); refine dcallP ⟨_, rfl⟩ rfl (by simp (maxSteps := 500000) (disch := omega) only [go_sem, Bool.not_not, List.mem_singleton, forall_eq, ↓reduceIte, if_pos, rowsAt_map, wrap64, wrapu8, List.getElem?_cons_zero, List.getElem?_cons_succ, Int.reduceToNat, Nat.reduceAdd, Nat.reduceBEq, Bool.or_false, Bool.false_or, Bool.true_or, Nat.reduceSub, Nat.reduceMul, Int.reduceAdd, Int.reduceEq, Int.reduceLT, Int.reduceLE, Int.reduceNeg, Nat.reduceLT, Nat.reduceLeDiff, Nat.reduceEqDiff, hlen]; first | done | rfl | fail) ?_; refine ⟨_, by first | exact ih (gt b.kids i) (B.size_lt (gt_mem (by omega))) | fail, ?_⟩; refine ⟨fun _ => rfl, fun _ => rfl, rfl, (fun h => by first | cases h | fail), ?_⟩; try simp (maxSteps := 500000) (disch := omega) only [go_sem, Bool.not_not, List.mem_singleton, forall_eq, ↓reduceIte, if_pos, rowsAt_map, wrap64, wrapu8, List.getElem?_cons_zero, List.getElem?_cons_succ, Int.reduceToNat, Nat.reduceAdd, Nat.reduceBEq, Bool.or_false, Bool.false_or, Bool.true_or, Nat.reduceSub, Nat.reduceMul, Int.reduceAdd, Int.reduceEq, Int.reduceLT, Int.reduceLE, Int.reduceNeg, Nat.reduceLT, Nat.reduceLeDiff, Nat.reduceEqDiff, hlen])
      have hi : i < b.kids.length := by omega
      have htk : b.kids.take (i + 1) = b.kids.take i ++ [gt b.kids i] := take_gt hi
      exact ⟨i + 1, by omega, by omega, wk_cl 5 (by decide) (by simp) (by simp only [go_sem, Bool.not_not, List.mem_singleton, forall_eq, ↓reduceIte, if_pos, rowsAt_map, wrap64, wrapu8, List.getElem?_cons_zero, List.getElem?_cons_succ, Int.reduceToNat, Nat.reduceAdd, Nat.reduceBEq, Bool.or_false, Bool.false_or, Bool.true_or, Nat.reduceSub, Nat.reduceMul, Int.reduceAdd, Int.reduceEq, Int.reduceLT, Int.reduceLE, Int.reduceNeg, Nat.reduceLT, Nat.reduceLeDiff, Nat.reduceEqDiff]; simp) (by simp only [go_sem, Bool.not_not, List.mem_singleton, forall_eq, ↓reduceIte, if_pos, rowsAt_map, wrap64, wrapu8, List.getElem?_cons_zero, List.getElem?_cons_succ, Int.reduceToNat, Nat.reduceAdd, Nat.reduceBEq, Bool.or_false, Bool.false_or, Bool.true_or, Nat.reduceSub, Nat.reduceMul, Int.reduceAdd, Int.reduceEq, Int.reduceLT, Int.reduceLE, Int.reduceNeg, Nat.reduceLT, Nat.reduceLeDiff, Nat.reduceEqDiff, B.bs, htk, List.map_append])⟩
    have hi : i = b.kids.length := by omega
    subst hi
    simp only [List.take_length]
    refine awp_loopT (fun i : Nat => i ≤ b.links.length) (fun i => b.links.length - i) (fun i => [(41, aI i)]) (fun i => [some (.box b.bs), zB, outB b b.kids.length i, RwB b.kids, RwL (b.links.take i)]) 0 (by omega)
      (wk_le (by simp only [go_sem, Bool.not_not, List.mem_singleton, forall_eq, ↓reduceIte, if_pos, rowsAt_map, wrap64, wrapu8, List.getElem?_cons_zero, List.getElem?_cons_succ, Int.reduceToNat, Nat.reduceAdd, Nat.reduceBEq, Bool.or_false, Bool.false_or, Bool.true_or, Nat.reduceSub, Nat.reduceMul, Int.reduceAdd, Int.reduceEq, Int.reduceLT, Int.reduceLE, Int.reduceNeg, Nat.reduceLT, Nat.reduceLeDiff, Nat.reduceEqDiff, B.bs]; simp) (by simp only [go_sem, Bool.not_not, List.mem_singleton, forall_eq, ↓reduceIte, if_pos, rowsAt_map, wrap64, wrapu8, List.getElem?_cons_zero, List.getElem?_cons_succ, Int.reduceToNat, Nat.reduceAdd, Nat.reduceBEq, Bool.or_false, Bool.false_or, Bool.true_or, Nat.reduceSub, Nat.reduceMul, Int.reduceAdd, Int.reduceEq, Int.reduceLT, Int.reduceLE, Int.reduceNeg, Nat.reduceLT, Nat.reduceLeDiff, Nat.reduceEqDiff, B.bs]; simp [go_sem])) ?_
    rintro i h1
    have hlen : (List.take i b.links).length = i := by simp; omega
    simp only [go_sem, Bool.not_not, List.mem_singleton, forall_eq, ↓reduceIte, if_pos, rowsAt_map, wrap64, wrapu8, List.getElem?_cons_zero, List.getElem?_cons_succ, Int.reduceToNat, Nat.reduceAdd, Nat.reduceBEq, Bool.or_false, Bool.false_or, Bool.true_or, Nat.reduceSub, Nat.reduceMul, Int.reduceAdd, Int.reduceEq, Int.reduceLT, Int.reduceLE, Int.reduceNeg, Nat.reduceLT, Nat.reduceLeDiff, Nat.reduceEqDiff, B.bs]
    repeat' first
    | with_reducible refine awp_seq ?_
    | ((with_reducible refine awp_region ?_); simp (maxSteps := 500000) (disch := omega) only [go_sem, Bool.not_not, List.mem_singleton, forall_eq, ↓reduceIte, if_pos, rowsAt_map, wrap64, wrapu8, List.getElem?_cons_zero, List.getElem?_cons_succ, Int.reduceToNat, Nat.reduceAdd, Nat.reduceBEq, Bool.or_false, Bool.false_or, Bool.true_or, Nat.reduceSub, Nat.reduceMul, Int.reduceAdd, Int.reduceEq, Int.reduceLT, Int.reduceLE, Int.reduceNeg, Nat.reduceLT, Nat.reduceLeDiff, Nat.reduceEqDiff, hlen])
    | ((with_reducible refine AWP_c ?_); refine cond_d (by simp (maxSteps := 500000) (disch := omega) only [go_sem, Bool.not_not, List.mem_singleton, forall_eq, ↓reduceIte, if_pos, rowsAt_map, wrap64, wrapu8, List.getElem?_cons_zero, List.getElem?_cons_succ, Int.reduceToNat, Nat.reduceAdd, Nat.reduceBEq, Bool.or_false, Bool.false_or, Bool.true_or, Nat.reduceSub, Nat.reduceMul, Int.reduceAdd, Int.reduceEq, Int.reduceLT, Int.reduceLE, Int.reduceNeg, Nat.reduceLT, Nat.reduceLeDiff, Nat.reduceEqDiff, hlen]; first | done | rfl) ?_ ?_ <;> intro hb hb2 <;> first | contradiction | (exfalso; omega) | ((try simp (maxSteps := 500000) (disch := omega) only [go_sem, Bool.not_not, List.mem_singleton, forall_eq, ↓reduceIte, if_pos, rowsAt_map, wrap64, wrapu8, List.getElem?_cons_zero, List.getElem?_cons_succ, Int.reduceToNat, Nat.reduceAdd, Nat.reduceBEq, Bool.or_false, Bool.false_or, Bool.true_or, Nat.reduceSub, Nat.reduceMul, Int.reduceAdd, Int.reduceEq, Int.reduceLT, Int.reduceLE, Int.reduceNeg, Nat.reduceLT, Nat.reduceLeDiff, Nat.reduceEqDiff, hlen, hb2]); try clear hb2))
    | ((with_reducible refine awp_skip ?_); simp (maxSteps := 500000) (disch := omega) only [go_sem, Bool.not_not, List.mem_singleton, forall_eq, ↓reduceIte, if_pos, rowsAt_map, wrap64, wrapu8, List.getElem?_cons_zero, List.getElem?_cons_succ, Int.reduceToNat, Nat.reduceAdd, Nat.reduceBEq, Bool.or_false, Bool.false_or, Bool.true_or, Nat.reduceSub, Nat.reduceMul, Int.reduceAdd, Int.reduceEq, Int.reduceLT, Int.reduceLE, Int.reduceNeg, Nat.reduceLT, Nat.reduceLeDiff, Nat.reduceEqDiff, hlen])
    | with_reducible refine awp_block ?_
    | ((with_reducible refine awp_exit ?_); simp (maxSteps := 500000) (disch := omega) only [go_sem, Bool.not_not, List.mem_singleton, forall_eq, ↓reduceIte, if_pos, rowsAt_map, wrap64, wrapu8, List.getElem?_cons_zero, List.getElem?_cons_succ, Int.reduceToNat, Nat.reduceAdd, Nat.reduceBEq, Bool.or_false, Bool.false_or, Bool.true_or, Nat.reduceSub, Nat.reduceMul, Int.reduceAdd, Int.reduceEq, Int.reduceLT, Int.reduceLE, Int.reduceNeg, Nat.reduceLT, Nat.reduceLeDiff, Nat.reduceEqDiff, hlen])
    · have hi : i < b.links.length := by omega
      have htk : b.links.take (i + 1) = b.links.take i ++ [gt b.links i] := take_gt hi
      exact ⟨i + 1, by omega, by omega, wk_cl 5 (by decide) (by simp) (by simp only [go_sem, Bool.not_not, List.mem_singleton, forall_eq, ↓reduceIte, if_pos, rowsAt_map, wrap64, wrapu8, List.getElem?_cons_zero, List.getElem?_cons_succ, Int.reduceToNat, Nat.reduceAdd, Nat.reduceBEq, Bool.or_false, Bool.false_or, Bool.true_or, Nat.reduceSub, Nat.reduceMul, Int.reduceAdd, Int.reduceEq, Int.reduceLT, Int.reduceLE, Int.reduceNeg, Nat.reduceLT, Nat.reduceLeDiff, Nat.reduceEqDiff]; simp) (by simp only [go_sem, Bool.not_not, List.mem_singleton, forall_eq, ↓reduceIte, if_pos, rowsAt_map, wrap64, wrapu8, List.getElem?_cons_zero, List.getElem?_cons_succ, Int.reduceToNat, Nat.reduceAdd, Nat.reduceBEq, Bool.or_false, Bool.false_or, Bool.true_or, Nat.reduceSub, Nat.reduceMul, Int.reduceAdd, Int.reduceEq, Int.reduceLT, Int.reduceLE, Int.reduceNeg, Nat.reduceLT, Nat.reduceLeDiff, Nat.reduceEqDiff, B.bs, htk, List.map_append])⟩
    have hi : i = b.links.length := by omega
    subst hi
    simp only [List.take_length]
    refine awp_ret ?_
    refine fin_r (r0 := b.a) (H1 := [some (.box b.bs), outB b b.kids.length b.links.length, outB b b.kids.length b.links.length, none, none]) rfl (h2 := by simp only [go_sem, Bool.not_not, List.mem_singleton, forall_eq, ↓reduceIte, if_pos, rowsAt_map, wrap64, wrapu8, List.getElem?_cons_zero, List.getElem?_cons_succ, Int.reduceToNat, Nat.reduceAdd, Nat.reduceBEq, Bool.or_false, Bool.false_or, Bool.true_or, Nat.reduceSub, Nat.reduceMul, Int.reduceAdd, Int.reduceEq, Int.reduceLT, Int.reduceLE, Int.reduceNeg, Nat.reduceLT, Nat.reduceLeDiff, Nat.reduceEqDiff, B.bs, Nat.le_refl, and_self, subR]; done)
end Go.Eng
open Go Go.Proofs
namespace Go.Eng
set_option linter.unusedSimpArgs false
set_option linter.unusedVariables false
set_option maxRecDepth 10000
set_option maxHeartbeats 4000000
def eqL {α : Type} (p : α → α → Bool) : List α → List α → Bool
  | [], [] => true
  | a :: l, b :: r => p a b && eqL p l r
  | _, _ => false
theorem eqL_len {α : Type} {p : α → α → Bool} : ∀ {l r : List α}, l.length ≠ r.length → eqL p l r = false
  | [], [], h => absurd rfl h
  | a :: l, b :: r, h => by rw [eqL, eqL_len (l := l) (r := r) (by simpa using h), Bool.and_false]
  | [], _ :: _, _ => rfl
  | _ :: _, [], _ => rfl
theorem eqL_nil {α : Type} {p : α → α → Bool} {l r : List α} (h1 : l = []) (h2 : r = []) : eqL p l r = true := by subst h1; subst h2; rfl
theorem eqL_f {α : Type} [Inhabited α] {p : α → α → Bool} {l r : List α} {i : Nat} (h1 : i < l.length) (h2 : i < r.length) (h : p (gt l i) (gt r i) = false) : eqL p (l.drop i) (r.drop i) = false := by
  rw [drop_gt h1, drop_gt h2, eqL, h, Bool.false_and]
theorem eqL_t {α : Type} [Inhabited α] {p : α → α → Bool} {l r : List α} {i : Nat} (h1 : i < l.length) (h2 : i < r.length) (h : p (gt l i) (gt r i) = true) : eqL p (l.drop i) (r.drop i) = eqL p (l.drop (i + 1)) (r.drop (i + 1)) := by
  rw [drop_gt h1, drop_gt h2, eqL, h, Bool.true_and]
theorem eqfT_ok (F : FuncId) (p : T → T → Bool) (l r : List T) (hl : l.length < 4611686018427387904) (h : ∀ i, i < l.length → i < r.length → AFn env F [(gt l i).a, (gt r i).a] [] (aB (p (gt l i) (gt r i))) []) :
    AFn env 22 [aF (l.map T.row), aF (r.map T.row), .c (.clo (.func F) [])] [] (aB (eqL p l r)) [] := by
  refine afn_body Tryz.func22 rfl (by decide) ?_
  simp only [Tryz.ntmps22, Tryz.results22, List.length_cons, List.length_nil, List.cons_append, List.nil_append, Nat.reduceAdd, Nat.reduceSub, List.replicate]
  repeat' first
  | with_reducible refine awp_seq ?_
  | ((with_reducible refine awp_region ?_); refine zS ?_)
  | ((with_reducible refine AWP_c ?_); refine zcdN ?_ ?_ <;> intro hb hb2 <;> first | contradiction | (exfalso; omega) | ((try refine zH hb2 ?_); try clear hb2))
  | ((with_reducible refine awp_ret ?_); refine fin_r ?_)
  | ((with_reducible refine awp_skip ?_); refine zS ?_)
  | with_reducible refine awp_block ?_
  · rw [eqL_len (by omega)]
  refine awp_loopT (fun i : Nat => i ≤ l.length ∧ eqL p l r = eqL p (l.drop i) (r.drop i)) (fun i => l.length - i) (fun i => [(17, aI i)]) (fun _ => []) 0 ⟨by omega, rfl⟩ zwl ?_
  rintro i ⟨h1, h2⟩
  refine zT ?_
  repeat' first
  | with_reducible refine awp_seq ?_
  | ((with_reducible refine awp_region ?_); refine zS ?_)
  | ((with_reducible refine AWP_c ?_); refine zcdD ?_ ?_ <;> intro hb hb2 <;> first | contradiction | (exfalso; omega) | ((try refine zH hb2 ?_); try clear hb2))
  | ((with_reducible refine AWP_c ?_); refine zcdM ?_ ?_ <;> intro hb <;> first | contradiction | (try refine zH hb ?_))
  | ((with_reducible refine awp_ret ?_); refine fin_r ?_)
  | ((with_reducible refine awp_skip ?_); refine zS ?_)
  | with_reducible refine awp_block ?_
  | ((with_reducible refine awp_exit ?_); refine zS ?_)
  | ((with_reducible refine CallK_id ?_); refine zcF ?_; refine ⟨_, by first | exact h i (by omega) (by omega) | fail, fun _ => rfl, fun _ => rfl, rfl, ?_⟩; try refine zS ?_)
  · rw [h2, eqL_f (by omega) (by omega) ‹p _ _ = false›]
  · exact ⟨i + 1, ⟨by omega, by rw [h2, eqL_t (by omega) (by omega) ‹p _ _ = true›]⟩, by omega, zwc 0⟩
  · rw [h2, eqL_nil (List.drop_eq_nil_of_le (by omega)) (List.drop_eq_nil_of_le (by omega))]
theorem eqfB_ok (F : FuncId) (p : B → B → Bool) (l r : List B) (hl : l.length < 4611686018427387904) (h : ∀ i, i < l.length → i < r.length → AFn env F [(gt l i).a, (gt r i).a] [] (aB (p (gt l i) (gt r i))) []) :
    AFn env 25 [aF (l.map B.row), aF (r.map B.row), .c (.clo (.func F) [])] [] (aB (eqL p l r)) [] := by
  refine afn_body Tryz.func25 rfl (by decide) ?_
  simp only [Tryz.ntmps25, Tryz.results25, List.length_cons, List.length_nil, List.cons_append, List.nil_append, Nat.reduceAdd, Nat.reduceSub, List.replicate]
  repeat' first
  | with_reducible refine awp_seq ?_
  | ((with_reducible refine awp_region ?_); refine zS ?_)
  | ((with_reducible refine AWP_c ?_); refine zcdN ?_ ?_ <;> intro hb hb2 <;> first | contradiction | (exfalso; omega) | ((try refine zH hb2 ?_); try clear hb2))
  | ((with_reducible refine awp_ret ?_); refine fin_r ?_)
  | ((with_reducible refine awp_skip ?_); refine zS ?_)
  | with_reducible refine awp_block ?_
  · rw [eqL_len (by omega)]
  refine awp_loopT (fun i : Nat => i ≤ l.length ∧ eqL p l r = eqL p (l.drop i) (r.drop i)) (fun i => l.length - i) (fun i => [(17, aI i)]) (fun _ => []) 0 ⟨by omega, rfl⟩ zwl ?_
  rintro i ⟨h1, h2⟩
  refine zT ?_
  repeat' first
  | with_reducible refine awp_seq ?_
  | ((with_reducible refine awp_region ?_); refine zS ?_)
  | ((with_reducible refine AWP_c ?_); refine zcdD ?_ ?_ <;> intro hb hb2 <;> first | contradiction | (exfalso; omega) | ((try refine zH hb2 ?_); try clear hb2))
  | ((with_reducible refine AWP_c ?_); refine zcdM ?_ ?_ <;> intro hb <;> first | contradiction | (try refine zH hb ?_))
  | ((with_reducible refine awp_ret ?_); refine fin_r ?_)
  | ((with_reducible refine awp_skip ?_); refine zS ?_)
  | with_reducible refine awp_block ?_
  | ((with_reducible refine awp_exit ?_); refine zS ?_)
  | ((with_reducible refine CallK_id ?_); refine zcF ?_; refine ⟨_, by first | exact h i (by omega) (by omega) | fail, fun _ => rfl, fun _ => rfl, rfl, ?_⟩; try refine zS ?_)
  · rw [h2, eqL_f (by omega) (by omega) ‹p _ _ = false›]
  · exact ⟨i + 1, ⟨by omega, by rw [h2, eqL_t (by omega) (by omega) ‹p _ _ = true›]⟩, by omega, zwc 0⟩
  · rw [h2, eqL_nil (List.drop_eq_nil_of_le (by omega)) (List.drop_eq_nil_of_le (by omega))]
theorem eqfNd_ok (F : FuncId) (p : Nd → Nd → Bool) (l r : List Nd) (hl : l.length < 4611686018427387904) (h : ∀ i, i < l.length → i < r.length → AFn env F [(gt l i).a, (gt r i).a] [] (aB (p (gt l i) (gt r i))) []) :
    AFn env 34 [aF (l.map Nd.row), aF (r.map Nd.row), .c (.clo (.func F) [])] [] (aB (eqL p l r)) [] := by
  refine afn_body Tryz.func34 rfl (by decide) ?_
  simp only [Tryz.ntmps34, Tryz.results34, List.length_cons, List.length_nil, List.cons_append, List.nil_append, Nat.reduceAdd, Nat.reduceSub, List.replicate]
  repeat' first
  | with_reducible refine awp_seq ?_
  | ((with_reducible refine awp_region ?_); refine zS ?_)
  | ((with_reducible refine AWP_c ?_); refine zcdN ?_ ?_ <;> intro hb hb2 <;> first | contradiction | (exfalso; omega) | ((try refine zH hb2 ?_); try clear hb2))
  | ((with_reducible refine awp_ret ?_); refine fin_r ?_)
  | ((with_reducible refine awp_skip ?_); refine zS ?_)
  | with_reducible refine awp_block ?_
  · rw [eqL_len (by omega)]
  refine awp_loopT (fun i : Nat => i ≤ l.length ∧ eqL p l r = eqL p (l.drop i) (r.drop i)) (fun i => l.length - i) (fun i => [(17, aI i)]) (fun _ => []) 0 ⟨by omega, rfl⟩ zwl ?_
  rintro i ⟨h1, h2⟩
  refine zT ?_
  repeat' first
  | with_reducible refine awp_seq ?_
  | ((with_reducible refine awp_region ?_); refine zS ?_)
  | ((with_reducible refine AWP_c ?_); refine zcdD ?_ ?_ <;> intro hb hb2 <;> first | contradiction | (exfalso; omega) | ((try refine zH hb2 ?_); try clear hb2))
  | ((with_reducible refine AWP_c ?_); refine zcdM ?_ ?_ <;> intro hb <;> first | contradiction | (try refine zH hb ?_))
  | ((with_reducible refine awp_ret ?_); refine fin_r ?_)
  | ((with_reducible refine awp_skip ?_); refine zS ?_)
  | with_reducible refine awp_block ?_
  | ((with_reducible refine awp_exit ?_); refine zS ?_)
  | ((with_reducible refine CallK_id ?_); refine zcF ?_; refine ⟨_, by first | exact h i (by omega) (by omega) | fail, fun _ => rfl, fun _ => rfl, rfl, ?_⟩; try refine zS ?_)
  · rw [h2, eqL_f (by omega) (by omega) ‹p _ _ = false›]
  · exact ⟨i + 1, ⟨by omega, by rw [h2, eqL_t (by omega) (by omega) ‹p _ _ = true›]⟩, by omega, zwc 0⟩
  · rw [h2, eqL_nil (List.drop_eq_nil_of_le (by omega)) (List.drop_eq_nil_of_le (by omega))]
theorem eqfFl_ok (F : FuncId) (p : Fl → Fl → Bool) (l r : List Fl) (hl : l.length < 4611686018427387904) (h : ∀ i, i < l.length → i < r.length → AFn env F [(gt l i).a, (gt r i).a] [] (aB (p (gt l i) (gt r i))) []) :
    AFn env 36 [aF (l.map Fl.row), aF (r.map Fl.row), .c (.clo (.func F) [])] [] (aB (eqL p l r)) [] := by
  refine afn_body Tryz.func36 rfl (by decide) ?_
  simp only [Tryz.ntmps36, Tryz.results36, List.length_cons, List.length_nil, List.cons_append, List.nil_append, Nat.reduceAdd, Nat.reduceSub, List.replicate]
  repeat' first
  | with_reducible refine awp_seq ?_
  | ((with_reducible refine awp_region ?_); refine zS ?_)
  | ((with_reducible refine AWP_c ?_); refine zcdN ?_ ?_ <;> intro hb hb2 <;> first | contradiction | (exfalso; omega) | ((try refine zH hb2 ?_); try clear hb2))
  | ((with_reducible refine awp_ret ?_); refine fin_r ?_)
  | ((with_reducible refine awp_skip ?_); refine zS ?_)
  | with_reducible refine awp_block ?_
  · rw [eqL_len (by omega)]
  refine awp_loopT (fun i : Nat => i ≤ l.length ∧ eqL p l r = eqL p (l.drop i) (r.drop i)) (fun i => l.length - i) (fun i => [(17, aI i)]) (fun _ => []) 0 ⟨by omega, rfl⟩ zwl ?_
  rintro i ⟨h1, h2⟩
  refine zT ?_
  repeat' first
  | with_reducible refine awp_seq ?_
  | ((with_reducible refine awp_region ?_); refine zS ?_)
  | ((with_reducible refine AWP_c ?_); refine zcdD ?_ ?_ <;> intro hb hb2 <;> first | contradiction | (exfalso; omega) | ((try refine zH hb2 ?_); try clear hb2))
  | ((with_reducible refine AWP_c ?_); refine zcdM ?_ ?_ <;> intro hb <;> first | contradiction | (try refine zH hb ?_))
  | ((with_reducible refine awp_ret ?_); refine fin_r ?_)
  | ((with_reducible refine awp_skip ?_); refine zS ?_)
  | with_reducible refine awp_block ?_
  | ((with_reducible refine awp_exit ?_); refine zS ?_)
  | ((with_reducible refine CallK_id ?_); refine zcF ?_; refine ⟨_, by first | exact h i (by omega) (by omega) | fail, fun _ => rfl, fun _ => rfl, rfl, ?_⟩; try refine zS ?_)
  · rw [h2, eqL_f (by omega) (by omega) ‹p _ _ = false›]
  · exact ⟨i + 1, ⟨by omega, by rw [h2, eqL_t (by omega) (by omega) ‹p _ _ = true›]⟩, by omega, zwc 0⟩
  · rw [h2, eqL_nil (List.drop_eq_nil_of_le (by omega)) (List.drop_eq_nil_of_le (by omega))]
def eqLk (a b : Lk) : Bool := decide (a.src = b.src) && decide (a.dst = b.dst)
theorem eqLk_ok (l r : List Lk) (hl : l.length < 4611686018427387904) : AFn env 23 [aF (l.map Lk.row), aF (r.map Lk.row)] [] (aB (eqL eqLk l r)) [] := by
  refine afn_body Tryz.func23 rfl (by decide) ?_
  simp only [Tryz.ntmps23, Tryz.results23, List.length_cons, List.length_nil, List.cons_append, List.nil_append, Nat.reduceAdd, Nat.reduceSub, List.replicate]
  repeat' first
  | with_reducible refine awp_seq ?_
  | ((with_reducible refine awp_region ?_); refine zS ?_)
  | ((with_reducible refine AWP_c ?_); refine zcdN ?_ ?_ <;> intro hb hb2 <;> first | contradiction | (exfalso; omega) | ((try refine zH hb2 ?_); try clear hb2))
  | ((with_reducible refine awp_ret ?_); refine fin_r ?_)
  | ((with_reducible refine awp_skip ?_); refine zS ?_)
  | with_reducible refine awp_block ?_
  · rw [eqL_len (by omega)]
  refine awp_loopT (fun i : Nat => i ≤ l.length ∧ eqL eqLk l r = eqL eqLk (l.drop i) (r.drop i)) (fun i => l.length - i) (fun i => [(13, aI i)]) (fun _ => []) 0 ⟨by omega, rfl⟩ zwl ?_
  rintro i ⟨h1, h2⟩
  refine zT ?_
  repeat' first
  | with_reducible refine awp_seq ?_
  | ((with_reducible refine awp_region ?_); refine zS ?_)
  | ((with_reducible refine awp_drawnC ?_ ?_); rfl; refine zS ?_)
  | ((with_reducible refine AWP_c ?_); refine zcdD ?_ ?_ <;> intro hb hb2 <;> first | contradiction | (exfalso; omega) | ((try refine zH hb2 ?_); try clear hb2))
  | ((with_reducible refine AWP_c ?_); refine zcdM ?_ ?_ <;> intro hb <;> first | contradiction | (try refine zH hb ?_))
  | ((with_reducible refine awp_ret ?_); refine fin_r ?_)
  | ((with_reducible refine awp_skip ?_); refine zS ?_)
  | with_reducible refine awp_block ?_
  | ((with_reducible refine awp_exit ?_); refine zS ?_)
  · rw [h2, eqL_f (by omega) (by omega) ‹_ = false›]
  · exact ⟨i + 1, ⟨by omega, by rw [h2, eqL_t (by omega) (by omega) ‹_ = true›]⟩, by omega, zwc 0⟩
  · rw [h2, eqL_nil (List.drop_eq_nil_of_le (by omega)) (List.drop_eq_nil_of_le (by omega))]
mutual
def eqT : T → T → Bool
  | .mk o n k, t => decide (o = t.op) && decide (n = t.n) && eqTs k t.kids
def eqTs : List T → List T → Bool
  | [], [] => true
  | [], _ :: _ => false
  | _ :: _, [] => false
  | a :: l, b :: r => eqT a b && eqTs l r
end
theorem eqTs_eq : ∀ l r : List T, eqTs l r = eqL eqT l r
  | [], [] => by rw [eqTs]; rfl
  | [], _ :: _ => by rw [eqTs]; rfl
  | _ :: _, [] => by rw [eqTs]; rfl
  | a :: l, b :: r => by rw [eqTs, eqL, eqTs_eq l r]
theorem eqT_eq (a b : T) : eqT a b = (decide (a.op = b.op) && decide (a.n = b.n) && eqL eqT a.kids b.kids) := by
  cases a with | mk o n k => rw [eqT, eqTs_eq]; rfl
theorem same_ok (a b : T) (ha : a.size < 4611686018427387904) : AFn env 21 [a.a, b.a] [] (aB (eqT a b)) [] := by
  generalize hn : a.size = n
  induction n using Nat.strongRecOn generalizing a b with
  | _ n ih0 =>
    have ih : ∀ x y : T, x.size < a.size → AFn env 21 [x.a, y.a] [] (aB (eqT x y)) [] := fun x y h => ih0 x.size (by omega) x y (by omega) rfl
    refine afn_body Tryz.func21 rfl (by decide) ?_
    simp only [Tryz.ntmps21, Tryz.results21, List.length_cons, List.length_nil, List.cons_append, List.nil_append, Nat.reduceAdd, Nat.reduceSub, List.replicate]
    repeat' first
    | with_reducible refine awp_seq ?_
    | ((with_reducible refine awp_region ?_); refine zS ?_)
    | ((with_reducible refine Gd_d ?_ ?_) <;> intro hb hb2 <;> first | contradiction | (exfalso; omega) | (refine zH hb2 ?_; try clear hb2))
    | ((with_reducible refine awp_ret ?_); refine fin_r ?_)
    | ((with_reducible refine CallK_id ?_); refine zcF ?_; refine ⟨_, by first | exact eqfT_ok 21 eqT a.kids b.kids (by have := a.kids_len; omega) (fun i h1 h2 => ih _ _ (by have := T.size_lt (gt_mem h1); omega)) | fail, fun _ => rfl, fun _ => rfl, rfl, ?_⟩; try refine zS ?_)
    all_goals (rw [eqT_eq]; simp [go_sem, *])
def eqNd (a b : Nd) : Bool := decide (a.kind = b.kind) && decide (a.x = b.x) && eqT a.t b.t
theorem eqNd_ok (a b : Nd) (ha : a.t.size < 4611686018427387904) : AFn env 35 [a.a, b.a] [] (aB (eqNd a b)) [] := by
  refine afn_body Tryz.func35 rfl (by decide) ?_
  simp only [Tryz.ntmps35, Tryz.results35, List.length_cons, List.length_nil, List.cons_append, List.nil_append, Nat.reduceAdd, Nat.reduceSub, List.replicate]
  repeat' first
  | with_reducible refine awp_seq ?_
  | ((with_reducible refine awp_region ?_); refine zS ?_)
  | ((with_reducible refine Gd_d ?_ ?_) <;> intro hb hb2 <;> first | contradiction | (exfalso; omega) | (refine zH hb2 ?_; try clear hb2))
  | ((with_reducible refine awp_ret ?_); refine fin_r ?_)
  | ((with_reducible refine CallK_id ?_); refine zcF ?_; refine ⟨_, by first | exact same_ok _ _ ha | fail, fun _ => rfl, fun _ => rfl, rfl, ?_⟩; try refine zS ?_)
  all_goals simp [go_sem, eqNd, *]
def eqFl (a b : Fl) : Bool := decide (a.src = b.src) && decide (a.dst = b.dst) && (a.els == b.els) && eqT a.t b.t
theorem eqFl_ok (a b : Fl) (ha : a.t.size < 4611686018427387904) : AFn env 37 [a.a, b.a] [] (aB (eqFl a b)) [] := by
  refine afn_body Tryz.func37 rfl (by decide) ?_
  simp only [Tryz.ntmps37, Tryz.results37, List.length_cons, List.length_nil, List.cons_append, List.nil_append, Nat.reduceAdd, Nat.reduceSub, List.replicate]
  repeat' first
  | with_reducible refine awp_seq ?_
  | ((with_reducible refine awp_region ?_); refine zS ?_)
  | ((with_reducible refine Gd_d ?_ ?_) <;> intro hb hb2 <;> first | contradiction | (exfalso; omega) | (refine zH hb2 ?_; try clear hb2))
  | ((with_reducible refine Gd_b ?_ ?_) <;> intro hb <;> first | contradiction | refine zH hb ?_)
  | ((with_reducible refine awp_ret ?_); refine fin_r ?_)
  | ((with_reducible refine CallK_id ?_); refine zcF ?_; refine ⟨_, by first | exact same_ok _ _ ha | fail, fun _ => rfl, fun _ => rfl, rfl, ?_⟩; try refine zS ?_)
  all_goals simp [go_sem, eqFl, *]
def Nt (n : List Nd) (f : List Fl) : A := .agg [.d (.fz (n.map Nd.row)), .d (.fz (f.map Fl.row))]
attribute [go_sem] Nt
def eqNt (n : List Nd) (f : List Fl) (n2 : List Nd) (f2 : List Fl) : Bool := eqL eqNd n n2 && eqL eqFl f f2
theorem sameNet_ok (n n2 : List Nd) (f f2 : List Fl) (h1 : Nd.sizes n < 4611686018427387904) (h2 : Fl.sizes f < 4611686018427387904) : AFn env 24 [Nt n f, Nt n2 f2] [] (aB (eqNt n f n2 f2)) [] := by
  have := Nd.len_le n
  have := Fl.len_le f
  refine afn_body Tryz.func24 rfl (by decide) ?_
  simp only [Tryz.ntmps24, Tryz.results24, List.length_cons, List.length_nil, List.cons_append, List.nil_append, Nat.reduceAdd, Nat.reduceSub, List.replicate]
  repeat' first
  | with_reducible refine awp_seq ?_
  | ((with_reducible refine awp_region ?_); refine zS ?_)
  | ((with_reducible refine Gd_b ?_ ?_) <;> intro hb <;> first | contradiction | refine zH hb ?_)
  | ((with_reducible refine awp_ret ?_); refine fin_r ?_)
  | ((with_reducible refine CallK_id ?_); refine zcF ?_; refine ⟨_, by first | exact eqfNd_ok 35 eqNd n n2 (by omega) (fun i h1 h2 => eqNd_ok _ _ (by have := Nd.size_kid (gt_mem h1); omega)) | exact eqfFl_ok 37 eqFl f f2 (by omega) (fun i h1 h2 => eqFl_ok _ _ (by have := Fl.size_kid (gt_mem h1); omega)) | fail, fun _ => rfl, fun _ => rfl, rfl, ?_⟩; try refine zS ?_)
  all_goals simp [go_sem, eqNt, *]
mutual
def eqB : B → B → Bool
  | .mk k n x y t c ks l ns fs, b => decide (k = b.kind) && decide (n = b.node) && decide (x = b.x) && decide (y = b.y) && eqT t b.t && eqL eqT c b.conds && eqL eqLk l b.links && eqNt ns fs b.nodes b.flows && eqBs ks b.kids
def eqBs : List B → List B → Bool
  | [], [] => true
  | [], _ :: _ => false
  | _ :: _, [] => false
  | a :: l, b :: r => eqB a b && eqBs l r
end
theorem eqBs_eq : ∀ l r : List B, eqBs l r = eqL eqB l r
  | [], [] => by rw [eqBs]; rfl
  | [], _ :: _ => by rw [eqBs]; rfl
  | _ :: _, [] => by rw [eqBs]; rfl
  | a :: l, b :: r => by rw [eqBs, eqL, eqBs_eq l r]
theorem eqB_eq (a b : B) : eqB a b = (decide (a.kind = b.kind) && decide (a.node = b.node) && decide (a.x = b.x) && decide (a.y = b.y) && eqT a.t b.t && eqL eqT a.conds b.conds && eqL eqLk a.links b.links && eqNt a.nodes a.flows b.nodes b.flows && eqL eqB a.kids b.kids) := by
  cases a with | mk => rw [eqB, eqBs_eq]; rfl
theorem sameB_ok (a b : B) (ha : a.size < 4611686018427387904) : AFn env 15 [a.a, b.a] [] (aB (eqB a b)) [] := by
  generalize hn : a.size = n
  induction n using Nat.strongRecOn generalizing a b with
  | _ n ih0 =>
    have ih : ∀ x y : B, x.size < a.size → AFn env 15 [x.a, y.a] [] (aB (eqB x y)) [] := fun x y h => ih0 x.size (by omega) x y (by omega) rfl
    have hz := a.size_eq
    have := T.len_le a.conds
    have := B.len_le a.kids
    refine afn_body Tryz.func15 rfl (by decide) ?_
    simp only [Tryz.ntmps15, Tryz.results15, List.length_cons, List.length_nil, List.cons_append, List.nil_append, Nat.reduceAdd, Nat.reduceSub, List.replicate]
    repeat' first
    | with_reducible refine awp_seq ?_
    | ((with_reducible refine awp_region ?_); refine zS ?_)
    | ((with_reducible refine Gd_d ?_ ?_) <;> intro hb hb2 <;> first | contradiction | (exfalso; omega) | (refine zH hb2 ?_; try clear hb2))
    | ((with_reducible refine Gd_b ?_ ?_) <;> intro hb <;> first | contradiction | refine zH hb ?_)
    | ((with_reducible refine awp_ret ?_); refine fin_r ?_)
    | ((with_reducible refine CallK_id ?_); refine zcF ?_; refine ⟨_, by first | exact same_ok _ _ (by omega) | exact eqfT_ok 21 eqT a.conds b.conds (by omega) (fun i h1 h2 => same_ok _ _ (by have := T.size_kid (gt_mem h1); omega)) | exact eqLk_ok _ _ (by omega) | exact sameNet_ok _ _ _ _ (by omega) (by omega) | exact eqfB_ok 15 eqB a.kids b.kids (by omega) (fun i h1 h2 => ih _ _ (by have := B.size_lt (gt_mem h1); omega)) | fail, fun _ => rfl, fun _ => rfl, rfl, ?_⟩; try refine zS ?_)
    all_goals (rw [eqB_eq]; simp [go_sem, *])
end Go.Eng
open Go Go.Proofs
namespace Go.Eng
set_option linter.unusedSimpArgs false
set_option linter.unusedVariables false
set_option maxRecDepth 10000
set_option maxHeartbeats 4000000
theorem plain_ok (a b : T) (ha : a.size < 4611686018427387904) : AFn env 52 [a.a, b.a] [] (aB (eqT a b)) [] := by
  generalize hn : a.size = n
  induction n using Nat.strongRecOn generalizing a b with
  | _ n ih0 =>
    have hl := a.kids_len
    have ih : ∀ x y : T, x.size < a.size → AFn env 52 [x.a, y.a] [] (aB (eqT x y)) [] := fun x y h => ih0 x.size (by omega) x y (by omega) rfl
    refine afn_body Tryz.func52 rfl (by decide) ?_
    simp only [Tryz.ntmps52, Tryz.results52, List.length_cons, List.length_nil, List.cons_append, List.nil_append, Nat.reduceAdd, Nat.reduceSub, List.replicate]
    refine awp_seq ?_
    refine awp_region ?_
    refine zT ?_
    refine awp_cut (fun _ : Unit => a.op = b.op ∧ a.n = b.n ∧ a.kids.length = b.kids.length) (fun _ => []) (fun _ => [some (.box [.d (dI a.op), .d (dI a.n), .d (.fz (a.kids.map T.row))]), some (.box [.d (dI b.op), .d (dI b.n), .d (.fz (b.kids.map T.row))])]) ?_ ?_
    · repeat' first
      | with_reducible refine awp_seq ?_
      | ((with_reducible refine awp_region ?_); refine zS ?_)
      | ((with_reducible refine Gd_d ?_ ?_) <;> intro hb hb2 <;> first | contradiction | (exfalso; omega) | (refine zH hb2 ?_; try clear hb2))
      | ((with_reducible refine AWP_c ?_); refine zcdT ?_)
      | ((with_reducible refine AWP_c ?_); refine zcdN ?_ ?_ <;> intro hb hb2 <;> first | contradiction | (exfalso; omega) | ((try refine zH hb2 ?_); try clear hb2))
      | ((with_reducible refine awp_ret ?_); refine fin_r ?_)
      | ((with_reducible refine awp_skip ?_); refine zS ?_)
      all_goals first
        | exact ⟨(), ⟨by assumption, by assumption, by omega⟩, wk_le (by simp only [go_sem]) (by simp only [go_sem])⟩
        | (rw [eqT_eq, eqL_len (by omega)]; simp [go_sem]; done)
        | (rw [eqT_eq]; clear ih ih0 hl ha hn; simp [go_sem, *]; done)
    rintro _ ⟨e1, e2, e3⟩
    refine zT ?_
    repeat' first
    | with_reducible refine awp_seq ?_
    | ((with_reducible refine awp_region ?_); refine zS ?_)
    | with_reducible refine awp_block ?_
    refine awp_loopT (fun i : Nat => i ≤ a.kids.length ∧ eqT a b = eqL eqT (a.kids.drop i) (b.kids.drop i)) (fun i => a.kids.length - i) (fun i => [(30, aI i)]) (fun _ => [some (.box [.d (dI a.op), .d (dI a.n), .d (.fz (a.kids.map T.row))]), some (.box [.d (dI b.op), .d (dI b.n), .d (.fz (b.kids.map T.row))])]) 0 ⟨by omega, by rw [eqT_eq]; simp [e1, e2]⟩ zwl ?_
    rintro i ⟨h1, h2⟩
    refine zT ?_
    repeat' first
    | with_reducible refine awp_seq ?_
    | ((with_reducible refine awp_region ?_); refine zS ?_)
    | ((with_reducible refine awp_drawnC ?_ ?_); rfl; refine zS ?_)
    | ((with_reducible refine DStep_id ?_); refine zdW ?_; refine ⟨_, by first | exact ih _ _ (by have := T.size_lt (gt_mem (l := a.kids) (i := i) (by omega)); omega) | fail, fun _ => rfl, fun _ => rfl, rfl, ?_⟩; try refine zS ?_)
    | ((with_reducible refine AWP_c ?_); refine zcdD ?_ ?_ <;> intro hb hb2 <;> first | contradiction | (exfalso; omega) | ((try refine zH hb2 ?_); try clear hb2))
    | ((with_reducible refine AWP_c ?_); refine zcdM ?_ ?_ <;> intro hb <;> first | contradiction | (try refine zH hb ?_))
    | ((with_reducible refine awp_ret ?_); refine fin_r ?_)
    | ((with_reducible refine awp_skip ?_); refine zS ?_)
    | with_reducible refine awp_block ?_
    | ((with_reducible refine awp_exit ?_); refine zS ?_)
    · rw [h2, eqL_f (by omega) (by omega) ‹_ = false›]
    · exact ⟨i + 1, ⟨by omega, by rw [h2, eqL_t (by omega) (by omega) ‹_ = true›]⟩, by omega, zwc 2⟩
    · rw [h2, eqL_nil (List.drop_eq_nil_of_le (by omega)) (List.drop_eq_nil_of_le (by omega))]
end Go.Eng
open Go Go.Proofs
namespace Go.Eng
set_option linter.unusedSimpArgs false
set_option linter.unusedVariables false
set_option maxRecDepth 10000
set_option maxHeartbeats 8000000
mutual
def deepF : B → Nat
  | .mk _ _ _ _ _ _ ks _ _ _ => deeps ks + 1
def deeps : List B → Nat
  | [] => 0
  | k :: l => max (deepF k) (deeps l)
end
theorem deepF_eq (b : B) : deepF b = deeps b.kids + 1 := by cases b; rw [deepF]; rfl
mutual
theorem deepF_le : ∀ b : B, deepF b ≤ b.size
  | .mk _ _ _ _ _ _ ks _ _ _ => by have := deeps_le ks; simp only [deepF, B.size]; omega
theorem deeps_le : ∀ l : List B, deeps l ≤ B.sizes l
  | [] => by simp [deeps]
  | t :: l => by have := deepF_le t; have := deeps_le l; simp only [deeps, B.sizes]; omega
end
theorem deep_ok (b : B) (hs : b.size ≤ 100000) : AFn env 16 [b.a] [] (aI (deepF b)) [] := by
  generalize hn : b.size = n
  induction n using Nat.strongRecOn generalizing b with
  | _ n ih0 =>
    have ih : ∀ k : B, k.size < b.size → AFn env 16 [k.a] [] (aI (deepF k)) [] := fun k h => ih0 k.size (by omega) k (by omega) rfl
    have hz := b.size_eq
    have l2 := B.len_le b.kids
    have hd := deepF_le b
    refine afn_body Tryz.func16 rfl (by decide) ?_
    simp only [Tryz.ntmps16, Tryz.results16, List.length_cons, List.length_nil, List.cons_append, List.nil_append, Nat.reduceAdd, Nat.reduceSub, List.replicate]
    repeat' first
    | with_reducible refine awp_seq ?_
    | ((with_reducible refine awp_region ?_); refine zS ?_)
    | with_reducible refine awp_block ?_
    refine awp_loopT (fun s : Nat × Nat => s.1 ≤ b.kids.length ∧ max s.2 (deeps (b.kids.drop s.1)) + 1 = deepF b) (fun s => b.kids.length - s.1) (fun s => [(3, aI s.2), (9, aI s.1)]) (fun s => [some (.box b.bs)]) (0, 0) ⟨by simp, by rw [deepF_eq]; simp⟩ (wk_le (by simp only [go_sem, Bool.not_not, List.mem_singleton, forall_eq, ↓reduceIte, if_pos, rowsAt_map, wrap64, wrapu8, List.getElem?_cons_zero, List.getElem?_cons_succ, Int.reduceToNat, Nat.reduceAdd, Nat.reduceBEq, Bool.or_false, Bool.false_or, Bool.true_or, Nat.reduceSub, Nat.reduceMul, Int.reduceAdd, Int.reduceEq, Int.reduceLT, Int.reduceLE, Int.reduceNeg, Nat.reduceLT, Nat.reduceLeDiff, Nat.reduceEqDiff]; simp) (by simp only [go_sem, Bool.not_not, List.mem_singleton, forall_eq, ↓reduceIte, if_pos, rowsAt_map, wrap64, wrapu8, List.getElem?_cons_zero, List.getElem?_cons_succ, Int.reduceToNat, Nat.reduceAdd, Nat.reduceBEq, Bool.or_false, Bool.false_or, Bool.true_or, Nat.reduceSub, Nat.reduceMul, Int.reduceAdd, Int.reduceEq, Int.reduceLT, Int.reduceLE, Int.reduceNeg, Nat.reduceLT, Nat.reduceLeDiff, Nat.reduceEqDiff, B.bs])) ?_
    rintro ⟨i, m⟩ ⟨h1, h2⟩
    simp only at h1 h2
    simp only [go_sem, Bool.not_not, List.mem_singleton, forall_eq, ↓reduceIte, if_pos, rowsAt_map, wrap64, wrapu8, List.getElem?_cons_zero, List.getElem?_cons_succ, Int.reduceToNat, Nat.reduceAdd, Nat.reduceBEq, Bool.or_false, Bool.false_or, Bool.true_or, Nat.reduceSub, Nat.reduceMul, Int.reduceAdd, Int.reduceEq, Int.reduceLT, Int.reduceLE, Int.reduceNeg, Nat.reduceLT, Nat.reduceLeDiff, Nat.reduceEqDiff, B.bs]
    repeat' first
    | with_reducible refine awp_seq ?_
    | ((with_reducible refine awp_region ?_); refine zS ?_)
    | ((with_reducible refine AWP_c ?_); refine zcdD ?_ ?_ <;> intro hb hb2 <;> first | contradiction | (exfalso; omega) | ((try refine zH hb2 ?_); try clear hb2))
    | ((with_reducible refine awp_ret ?_); refine fin_r ?_)
    | ((with_reducible refine awp_skip ?_); refine zS ?_)
    | with_reducible refine awp_block ?_
    | ((with_reducible refine awp_exit ?_); refine zS ?_)
    | ((with_reducible refine CallK_id ?_); refine zcF ?_; refine ⟨_, by first | exact ih (gt b.kids i) (B.size_lt (gt_mem (by omega))) | fail, fun _ => rfl, fun _ => rfl, rfl, ?_⟩; try refine zS ?_)
    · have hi : i < b.kids.length := by omega
      rw [drop_gt hi, deeps] at h2
      exact ⟨(i + 1, max m (deepF (gt b.kids i))), ⟨by simp only; omega, by simp only; omega⟩, by simp only; omega, wk_cl 1 (by decide) (by simp) (by simp only [go_sem, Bool.not_not, List.mem_singleton, forall_eq, ↓reduceIte, if_pos, rowsAt_map, wrap64, wrapu8, List.getElem?_cons_zero, List.getElem?_cons_succ, Int.reduceToNat, Nat.reduceAdd, Nat.reduceBEq, Bool.or_false, Bool.false_or, Bool.true_or, Nat.reduceSub, Nat.reduceMul, Int.reduceAdd, Int.reduceEq, Int.reduceLT, Int.reduceLE, Int.reduceNeg, Nat.reduceLT, Nat.reduceLeDiff, Nat.reduceEqDiff]; simp; try omega) (by simp only [go_sem, Bool.not_not, List.mem_singleton, forall_eq, ↓reduceIte, if_pos, rowsAt_map, wrap64, wrapu8, List.getElem?_cons_zero, List.getElem?_cons_succ, Int.reduceToNat, Nat.reduceAdd, Nat.reduceBEq, Bool.or_false, Bool.false_or, Bool.true_or, Nat.reduceSub, Nat.reduceMul, Int.reduceAdd, Int.reduceEq, Int.reduceLT, Int.reduceLE, Int.reduceNeg, Nat.reduceLT, Nat.reduceLeDiff, Nat.reduceEqDiff, B.bs])⟩
    have hi : i = b.kids.length := by omega
    subst hi
    rw [List.drop_length, deeps] at h2
    rw [show ((m : Int) + 1) = ((deepF b : Nat) : Int) by omega]
def bareF (b : B) : B :=
  .mk 0 (if b.kind = 8 ∨ b.kind = 9 ∨ b.kind = 11 ∨ b.kind = 2 ∨ b.kind = 4 ∨ b.kind = 5 ∨ b.kind = 12 ∨ b.kind = 3 ∨ b.kind = 10 then 0 else b.node)
    (if b.kind = 3 ∨ b.kind = 2 ∨ b.kind = 4 ∨ b.kind = 10 ∨ b.kind = 8 ∨ b.kind = 11 ∨ b.kind = 12 then 0 else b.x)
    (if b.kind = 11 ∨ b.kind = 12 ∧ b.x = 3 then 0 else b.y)
    (if b.kind = 3 then t0 else b.t)
    (if b.kind = 8 ∨ b.kind = 11 ∨ b.kind = 12 ∧ b.x = 3 then [] else b.conds)
    (if b.kind = 8 ∨ b.kind = 9 ∨ b.kind = 11 ∨ b.kind = 10 ∨ b.kind = 6 ∨ b.kind = 7 ∨ b.kind = 13 then [] else b.kids)
    (if b.kind = 13 then [] else b.links) (if b.kind = 14 then [] else b.nodes) (if b.kind = 14 then [] else b.flows)
section
variable (k n x y : Int) (t : T) (c : List T) (ks : List B) (l : List Lk) (ns : List Nd) (fs : List Fl)
theorem mk_kind : (B.mk k n x y t c ks l ns fs).kind = k := rfl
theorem mk_node : (B.mk k n x y t c ks l ns fs).node = n := rfl
theorem mk_x : (B.mk k n x y t c ks l ns fs).x = x := rfl
theorem mk_y : (B.mk k n x y t c ks l ns fs).y = y := rfl
theorem mk_t : (B.mk k n x y t c ks l ns fs).t = t := rfl
theorem mk_conds : (B.mk k n x y t c ks l ns fs).conds = c := rfl
theorem mk_kids : (B.mk k n x y t c ks l ns fs).kids = ks := rfl
theorem mk_links : (B.mk k n x y t c ks l ns fs).links = l := rfl
theorem mk_nodes : (B.mk k n x y t c ks l ns fs).nodes = ns := rfl
theorem mk_flows : (B.mk k n x y t c ks l ns fs).flows = fs := rfl
end
attribute [go_sem] mk_kind mk_node mk_x mk_y mk_t mk_conds mk_kids mk_links mk_nodes mk_flows
theorem bare2_ok (n x y : Int) (t : T) (c : List T) (ks : List B) (l : List Lk) (ns : List Nd) (fs : List Fl) : AFn env 26 [(B.mk 2 n x y t c ks l ns fs).a] [] (bareF (B.mk 2 n x y t c ks l ns fs)).a [] := by
  refine afn_body Tryz.func26 rfl (by decide) ?_
  simp only [Tryz.ntmps26, Tryz.results26, List.length_cons, List.length_nil, List.cons_append, List.nil_append, Nat.reduceAdd, Nat.reduceSub, List.replicate]
  repeat' first
  | ((with_reducible refine awp_seqQ ?_); intro _ _)
  | ((with_reducible refine awp_region ?_); refine zS ?_)
  | ((with_reducible refine AWP_c ?_); refine zcdT ?_)
  | ((with_reducible refine AWP_c ?_); refine zcdF ?_)
  | ((with_reducible refine awp_skip ?_); try refine zS ?_)
  | with_reducible refine awp_block ?_
  | ((with_reducible refine awp_exit ?_); try refine zS ?_)
  | ((with_reducible refine awp_ret ?_); refine q_step (by assumption) ?_)
  | with_reducible refine fin_r ?_
  | ((with_reducible refine q_step (by assumption) ?_); try refine zS ?_)
  all_goals simp [go_sem, bareF]
theorem bare5_ok (n x y : Int) (t : T) (c : List T) (ks : List B) (l : List Lk) (ns : List Nd) (fs : List Fl) : AFn env 26 [(B.mk 5 n x y t c ks l ns fs).a] [] (bareF (B.mk 5 n x y t c ks l ns fs)).a [] := by
  refine afn_body Tryz.func26 rfl (by decide) ?_
  simp only [Tryz.ntmps26, Tryz.results26, List.length_cons, List.length_nil, List.cons_append, List.nil_append, Nat.reduceAdd, Nat.reduceSub, List.replicate]
  repeat' first
  | ((with_reducible refine awp_seqQ ?_); intro _ _)
  | ((with_reducible refine awp_region ?_); refine zS ?_)
  | ((with_reducible refine AWP_c ?_); refine zcdT ?_)
  | ((with_reducible refine AWP_c ?_); refine zcdF ?_)
  | ((with_reducible refine awp_skip ?_); try refine zS ?_)
  | with_reducible refine awp_block ?_
  | ((with_reducible refine awp_exit ?_); try refine zS ?_)
  | ((with_reducible refine awp_ret ?_); refine q_step (by assumption) ?_)
  | with_reducible refine fin_r ?_
  | ((with_reducible refine q_step (by assumption) ?_); try refine zS ?_)
  all_goals simp [go_sem, bareF]
theorem bare6_ok (n x y : Int) (t : T) (c : List T) (ks : List B) (l : List Lk) (ns : List Nd) (fs : List Fl) : AFn env 26 [(B.mk 6 n x y t c ks l ns fs).a] [] (bareF (B.mk 6 n x y t c ks l ns fs)).a [] := by
  refine afn_body Tryz.func26 rfl (by decide) ?_
  simp only [Tryz.ntmps26, Tryz.results26, List.length_cons, List.length_nil, List.cons_append, List.nil_append, Nat.reduceAdd, Nat.reduceSub, List.replicate]
  repeat' first
  | ((with_reducible refine awp_seqQ ?_); intro _ _)
  | ((with_reducible refine awp_region ?_); refine zS ?_)
  | ((with_reducible refine AWP_c ?_); refine zcdT ?_)
  | ((with_reducible refine AWP_c ?_); refine zcdF ?_)
  | ((with_reducible refine awp_skip ?_); try refine zS ?_)
  | with_reducible refine awp_block ?_
  | ((with_reducible refine awp_exit ?_); try refine zS ?_)
  | ((with_reducible refine awp_ret ?_); refine q_step (by assumption) ?_)
  | with_reducible refine fin_r ?_
  | ((with_reducible refine q_step (by assumption) ?_); try refine zS ?_)
  all_goals simp [go_sem, bareF]
end Go.Eng
open Go Go.Proofs
namespace Go.Eng
set_option linter.unusedSimpArgs false
set_option linter.unusedVariables false
set_option maxRecDepth 10000
set_option maxHeartbeats 8000000
attribute [go_sem] B.bs
theorem num2_ok (n x y : Int) (t : T) (c : List T) (ks : List B) (l : List Lk) (ns : List Nd) (fs : List Fl) : AFn env 27 [(B.mk 2 n x y t c ks l ns fs).a] [] (aB (decide (0 ≤ x) && decide (x < 4))) [] := by
  refine afn_body Tryz.func27 rfl (by decide) ?_
  simp only [Tryz.ntmps27, Tryz.results27, List.length_cons, List.length_nil, List.cons_append, List.nil_append, Nat.reduceAdd, Nat.reduceSub, List.replicate]
  repeat' first
  | ((with_reducible refine awp_seqQ ?_); intro _ _)
  | ((with_reducible refine awp_region ?_); refine zS ?_)
  | ((with_reducible refine Gd_d ?_ ?_) <;> intro hb hb2 <;> first | contradiction | (exfalso; omega) | (refine zH hb2 ?_; try clear hb2))
  | ((with_reducible refine AWP_c ?_); refine zcdT ?_)
  | ((with_reducible refine AWP_c ?_); refine zcdF ?_)
  | with_reducible refine awp_block ?_
  | ((with_reducible refine awp_ret ?_); refine q_step (by assumption) ?_)
  | with_reducible refine fin_r ?_
  | ((with_reducible refine q_step (by assumption) ?_); try refine zS ?_)
  all_goals first | (simp [go_sem]; done) | (simp [go_sem]; omega)
theorem num5_ok (n x y : Int) (t : T) (c : List T) (ks : List B) (l : List Lk) (ns : List Nd) (fs : List Fl) : AFn env 27 [(B.mk 5 n x y t c ks l ns fs).a] [] (aB true) [] := by
  refine afn_body Tryz.func27 rfl (by decide) ?_
  simp only [Tryz.ntmps27, Tryz.results27, List.length_cons, List.length_nil, List.cons_append, List.nil_append, Nat.reduceAdd, Nat.reduceSub, List.replicate]
  repeat' first
  | ((with_reducible refine awp_seqQ ?_); intro _ _)
  | ((with_reducible refine awp_region ?_); refine zS ?_)
  | ((with_reducible refine Gd_d ?_ ?_) <;> intro hb hb2 <;> first | contradiction | (exfalso; omega) | (refine zH hb2 ?_; try clear hb2))
  | ((with_reducible refine AWP_c ?_); refine zcdT ?_)
  | ((with_reducible refine AWP_c ?_); refine zcdF ?_)
  | with_reducible refine awp_block ?_
  | ((with_reducible refine awp_ret ?_); refine q_step (by assumption) ?_)
  | with_reducible refine fin_r ?_
  | ((with_reducible refine q_step (by assumption) ?_); try refine zS ?_)
  all_goals simp [go_sem]
theorem num6_ok (n x y : Int) (t : T) (c : List T) (ks : List B) (l : List Lk) (ns : List Nd) (fs : List Fl) : AFn env 27 [(B.mk 6 n x y t c ks l ns fs).a] [] (aB (decide (1 < ks.length))) [] := by
  refine afn_body Tryz.func27 rfl (by decide) ?_
  simp only [Tryz.ntmps27, Tryz.results27, List.length_cons, List.length_nil, List.cons_append, List.nil_append, Nat.reduceAdd, Nat.reduceSub, List.replicate]
  repeat' first
  | ((with_reducible refine awp_seqQ ?_); intro _ _)
  | ((with_reducible refine awp_region ?_); refine zS ?_)
  | ((with_reducible refine Gd_d ?_ ?_) <;> intro hb hb2 <;> first | contradiction | (exfalso; omega) | (refine zH hb2 ?_; try clear hb2))
  | ((with_reducible refine AWP_c ?_); refine zcdT ?_)
  | ((with_reducible refine AWP_c ?_); refine zcdF ?_)
  | ((with_reducible refine awp_skip ?_); try refine zS ?_)
  | with_reducible refine awp_block ?_
  | ((with_reducible refine awp_ret ?_); refine q_step (by assumption) ?_)
  | with_reducible refine fin_r ?_
  | ((with_reducible refine q_step (by assumption) ?_); try refine zS ?_)
  all_goals (simp [go_sem]; omega)
def idxF {α : Type} (p : α → Bool) : List α → Nat → Int
  | [], _ => -1
  | x :: l, i => if p x = true then i else idxF p l (i + 1)
theorem idxF_any {α : Type} (p : α → Bool) : ∀ (l : List α) (i : Nat), decide (0 ≤ idxF p l i) = l.any p
  | [], i => by simp [idxF]
  | x :: l, i => by
    rw [idxF, List.any_cons]
    split
    · rename_i h; simp [h]
    · rename_i h; rw [idxF_any p l]; simp [h]
theorem idxF_any' {α : Type} (p : α → Bool) (l : List α) (i : Nat) : decide (idxF p l i ≥ 0) = l.any p := idxF_any p l i
theorem idxB_ok (F : FuncId) (p : B → Bool) (l : List B) (b : B) (hl : l.length < 4611686018427387904) (h : ∀ i, i < l.length → AFn env F [(gt l i).a, P0] [some (.box b.bs)] (aB (p (gt l i))) [some (.box b.bs)]) :
    AFn env 42 [aF (l.map B.row), .c (.clo (.func F) [.ptr 0 0 0 0])] [some (.box b.bs)] (aI (idxF p l 0)) [some (.box b.bs)] := by
  refine afn_body Tryz.func42 rfl (by decide) ?_
  simp only [Tryz.ntmps42, Tryz.results42, List.length_cons, List.length_nil, List.cons_append, List.nil_append, Nat.reduceAdd, Nat.reduceSub, List.replicate]
  repeat' first
  | with_reducible refine awp_seq ?_
  | ((with_reducible refine awp_region ?_); refine zS ?_)
  | with_reducible refine awp_block ?_
  refine awp_loopT (fun i : Nat => i ≤ l.length ∧ idxF p l 0 = idxF p (l.drop i) i) (fun i => l.length - i) (fun i => [(8, aI i)]) (fun _ => [some (.box b.bs)]) 0 ⟨by omega, rfl⟩ zwl ?_
  rintro i ⟨h1, h2⟩
  refine zT ?_
  repeat' first
  | with_reducible refine awp_seq ?_
  | ((with_reducible refine awp_region ?_); refine zS ?_)
  | ((with_reducible refine AWP_c ?_); refine zcdD ?_ ?_ <;> intro hb hb2 <;> first | contradiction | (exfalso; omega) | ((try refine zH hb2 ?_); try clear hb2))
  | ((with_reducible refine AWP_c ?_); refine zcdB ?_ ?_ <;> intro hb <;> first | contradiction | (try refine zH hb ?_))
  | ((with_reducible refine awp_ret ?_); refine fin_r ?_)
  | ((with_reducible refine awp_skip ?_); refine zS ?_)
  | with_reducible refine awp_block ?_
  | ((with_reducible refine awp_exit ?_); refine zS ?_)
  | ((with_reducible refine CallK_id ?_); refine zcT [0] ?_; refine ⟨_, _, by first | exact h i (by omega) | fail, ?_⟩; try refine zS ?_)
  · rw [h2, drop_gt (by omega), idxF, if_pos ‹_›]
  · exact ⟨i + 1, ⟨by omega, by rw [h2, drop_gt (by omega), idxF, if_neg (by simp [*])]⟩, by omega, zwc 1⟩
  · rw [h2, List.drop_eq_nil_of_le (by omega), idxF]
theorem anyB_ok (F : FuncId) (p : B → Bool) (l : List B) (b : B) (hl : l.length < 4611686018427387904) (h : ∀ i, i < l.length → AFn env F [(gt l i).a, P0] [some (.box b.bs)] (aB (p (gt l i))) [some (.box b.bs)]) :
    AFn env 28 [aF (l.map B.row), .c (.clo (.func F) [.ptr 0 0 0 0])] [some (.box b.bs)] (aB (l.any p)) [some (.box b.bs)] := by
  refine afn_body Tryz.func28 rfl (by decide) ?_
  simp only [Tryz.ntmps28, Tryz.results28, List.length_cons, List.length_nil, List.cons_append, List.nil_append, Nat.reduceAdd, Nat.reduceSub, List.replicate]
  repeat' first
  | with_reducible refine awp_seq ?_
  | ((with_reducible refine awp_region ?_); refine zS ?_)
  | ((with_reducible refine awp_ret ?_); refine fin_r ?_)
  | ((with_reducible refine CallK_id ?_); refine zcT [0] ?_; refine ⟨_, _, by first | exact idxB_ok F p l b hl h | fail, ?_⟩; try refine zS ?_)
  rw [idxF_any']
def badK (k : Int) (x : B) : Bool := decide (13 ≤ x.kind) || decide (x.kind = 12) && decide (k ≠ 13) || decide (x.kind = 10) != decide (k = 9)
mutual
def rightF (N : B → Bool) : B → Bool
  | .mk k n x y t c ks l ns fs => eqB (bareF (.mk k n x y t c ks l ns fs)) b0 && decide (0 ≤ n) && decide (n < 24) && N (.mk k n x y t c ks l ns fs) && !wrongs N k ks
def wrongs (N : B → Bool) : Int → List B → Bool
  | _, [] => false
  | k, x :: l => badK k x || !rightF N x || wrongs N k l
end
def wrong1 (N : B → Bool) (k : Int) (x : B) : Bool := badK k x || !rightF N x
theorem wrongs_eq (N : B → Bool) (k : Int) : ∀ l : List B, wrongs N k l = l.any (wrong1 N k)
  | [] => by rw [wrongs]; rfl
  | x :: l => by rw [wrongs, List.any_cons, wrongs_eq N k l]; rfl
theorem rightF_eq (N : B → Bool) (b : B) : rightF N b = (eqB (bareF b) b0 && decide (0 ≤ b.node) && decide (b.node < 24) && N b && !(b.kids.any (wrong1 N b.kind))) := by
  cases b with | mk => rw [rightF, wrongs_eq]; rfl
theorem bareF_size (b : B) : (bareF b).size ≤ 2 * b.size := by
  have h0 : t0.size = 1 := rfl
  have h1 := b.t.size_pos
  rw [B.size_eq (bareF b), B.size_eq b]
  simp only [bareF, B.t, B.conds, B.links, B.nodes, B.flows, B.kids]
  have e1 : (if b.kind = 3 then t0 else b.t).size ≤ b.t.size := by split <;> omega
  have e2 : ∀ (p : Prop) [Decidable p], T.sizes (if p then [] else b.conds) ≤ T.sizes b.conds := fun p _ => by split <;> simp [T.sizes]
  have e3 : ∀ (p : Prop) [Decidable p], (if p then [] else b.links).length ≤ b.links.length := fun p _ => by split <;> simp
  have e4 : ∀ (p : Prop) [Decidable p], Nd.sizes (if p then [] else b.nodes) ≤ Nd.sizes b.nodes := fun p _ => by split <;> simp [Nd.sizes]
  have e5 : ∀ (p : Prop) [Decidable p], Fl.sizes (if p then [] else b.flows) ≤ Fl.sizes b.flows := fun p _ => by split <;> simp [Fl.sizes]
  have e6 : ∀ (p : Prop) [Decidable p], B.sizes (if p then [] else b.kids) ≤ B.sizes b.kids := fun p _ => by split <;> simp [B.sizes]
  have a2 := e2 (b.kind = 8 ∨ b.kind = 11 ∨ b.kind = 12 ∧ b.x = 3)
  have a3 := e3 (b.kind = 13)
  have a4 := e4 (b.kind = 14)
  have a5 := e5 (b.kind = 14)
  have a6 := e6 (b.kind = 8 ∨ b.kind = 9 ∨ b.kind = 11 ∨ b.kind = 10 ∨ b.kind = 6 ∨ b.kind = 7 ∨ b.kind = 13)
  simp only [B.t, B.conds, B.links, B.nodes, B.flows, B.kids] at *
  omega
theorem wrong_ok (N : B → Bool) (b x : B) (hx : AFn env 17 [x.a] [] (aB (rightF N x)) []) : AFn env 29 [x.a, P0] [some (.box b.bs)] (aB (wrong1 N b.kind x)) [some (.box b.bs)] := by
  refine afn_body Tryz.func29 rfl (by decide) ?_
  simp only [Tryz.ntmps29, Tryz.results29, List.length_cons, List.length_nil, List.cons_append, List.nil_append, Nat.reduceAdd, Nat.reduceSub, List.replicate]
  repeat' first
  | with_reducible refine awp_seq ?_
  | ((with_reducible refine awp_region ?_); refine zS ?_)
  | ((with_reducible refine Gd_nd ?_ ?_) <;> intro hb hb2 <;> first | contradiction | (exfalso; omega) | (refine zH hb2 ?_; try clear hb2))
  | ((with_reducible refine Gd_d ?_ ?_) <;> intro hb hb2 <;> first | contradiction | (exfalso; omega) | (refine zH hb2 ?_; try clear hb2))
  | ((with_reducible refine Gd_b ?_ ?_) <;> intro hb <;> first | contradiction | refine zH hb ?_)
  | ((with_reducible refine awp_ret ?_); refine fin_r ?_)
  | ((with_reducible refine CallK_id ?_); refine zcF ?_; refine ⟨_, by first | exact hx | fail, fun _ => rfl, fun _ => rfl, rfl, ?_⟩; try refine zS ?_)
  all_goals clear hx
  all_goals first
    | (simp [go_sem, wrong1, badK, *]; done)
    | (by_cases g1 : x.kind = 10 <;> by_cases g2 : b.kind = 9 <;> simp_all [go_sem, wrong1, badK] <;> first | done | omega)
    | trace_state
theorem right_ok (N P : B → Bool) (hK : ∀ b, P b = true → ∀ k ∈ b.kids, P k = true) (hb1 : ∀ b, P b = true → AFn env 26 [b.a] [] (bareF b).a []) (hN : ∀ b, P b = true → AFn env 27 [b.a] [] (aB (N b)) [])
    (b : B) (hP : P b = true) (hs : b.size ≤ 100000) : AFn env 17 [b.a] [] (aB (rightF N b)) [] := by
  generalize hn : b.size = n
  induction n using Nat.strongRecOn generalizing b with
  | _ n ih0 =>
    have ih : ∀ k : B, k.size < b.size → P k = true → AFn env 17 [k.a] [] (aB (rightF N k)) [] := fun k h hp => ih0 k.size (by omega) k hp (by omega) rfl
    have hz := b.size_eq
    have l2 := B.len_le b.kids
    have hbs : (bareF b).size ≤ 2 * b.size := bareF_size b
    refine afn_body Tryz.func17 rfl (by decide) ?_
    simp only [Tryz.ntmps17, Tryz.results17, List.length_cons, List.length_nil, List.cons_append, List.nil_append, Nat.reduceAdd, Nat.reduceSub, List.replicate]
    repeat' first
    | with_reducible refine awp_seq ?_
    | ((with_reducible refine awp_region ?_); refine zS ?_)
    | ((with_reducible refine Gd_nd ?_ ?_) <;> intro hb hb2 <;> first | contradiction | (exfalso; omega) | (refine zH hb2 ?_; try clear hb2))
    | ((with_reducible refine Gd_b ?_ ?_) <;> intro hb <;> first | contradiction | refine zH hb ?_)
    | ((with_reducible refine AWP_c ?_); refine zcdT ?_)
    | ((with_reducible refine AWP_c ?_); refine zcdM ?_ ?_ <;> intro hb <;> first | contradiction | (try refine zH hb ?_))
    | ((with_reducible refine awp_ret ?_); refine fin_r ?_)
    | ((with_reducible refine awp_skip ?_); refine zS ?_)
    | ((with_reducible refine CallK_id ?_); refine zcF ?_; refine ⟨_, by first | exact hb1 b hP | exact sameB_ok (bareF b) b0 (by omega) | exact hN b hP | fail, fun _ => rfl, fun _ => rfl, rfl, ?_⟩; try refine zS ?_)
    | ((with_reducible refine CallK_id ?_); refine zcT [0] ?_; refine ⟨_, _, by first | exact anyB_ok 29 (wrong1 N b.kind) b.kids b (by omega) (fun i hi => wrong_ok N b (gt b.kids i) (ih _ (B.size_lt (gt_mem hi)) (hK b hP _ (gt_mem hi)))) | fail, ?_⟩; try refine zS ?_)
    all_goals clear ih ih0 hb1 hN hK
    all_goals first | (rw [rightF_eq]; simp [*]; done) | (rw [rightF_eq]; simp [*]; omega)
end Go.Eng
open Go Go.Proofs
namespace Go.Eng
set_option linter.unusedSimpArgs false
set_option linter.unusedVariables false
set_option maxRecDepth 10000
set_option maxHeartbeats 8000000
def ents (l : List Int) : List (Value × Value) := l.map fun n => (.int .i64 n, .bool true)
theorem mfind_ents (k : Int) : ∀ l : List Int, mfind .i64 k (ents l) = some (if k ∈ l then some (l.idxOf k, .bool true) else none)
  | [] => by simp [ents, mfind]
  | a :: l => by
    have ih := mfind_ents k l
    show mfind .i64 k ((.int .i64 a, .bool true) :: ents l) = _
    rw [mfind, if_pos rfl, ih]
    by_cases h : k = a
    · subst h; simp
    · rw [if_neg h]
      have h' : ¬ a = k := fun e => h e.symm
      by_cases h2 : k ∈ l
      · have hb : (a == k) = false := by simpa using h'
        simp [h, h2, List.idxOf_cons, hb]
      · simp [h, h2]
theorem look_ents (k : Int) (l : List Int) : lookB env 4 false (mfind .i64 k (ents l)) = some (.c (.d (.sc (.bool (decide (k ∈ l)))))) := by
  rw [mfind_ents]
  by_cases h : k ∈ l
  · simp [h, lookB, lookA, one, sc]
  · simp [h, lookB, lookA, one, sc, t4zer]
def ins (l : List Int) (k : Int) : List Int := if k ∈ l then l else l ++ [k]
theorem put_ents (k : Int) (l : List Int) : mput .i64 k (.bool true) (ents l) (mfind .i64 k (ents l)) = some (ents (ins l k)) := by
  rw [mfind_ents]
  unfold ins
  by_cases h : k ∈ l
  · simp only [if_pos h, mput]
    congr 1
    have hi := List.idxOf_lt_length_of_mem h
    unfold ents
    rw [← List.map_set (f := fun n => (Value.int .i64 n, Value.bool true)) (a := k)]
    congr 1
    apply List.ext_getElem?
    intro i
    rw [List.getElem?_set]
    split
    · rename_i e; subst e; simp [List.getElem?_eq_getElem hi]
    · rfl
  · simp only [if_neg h, mput]
    simp [ents]
attribute [go_sem] look_ents put_ents
theorem ents_nil : ents [] = [] := rfl
def skips (k : Int) : Prop := k = 1 ∨ k = 6 ∨ k = 7 ∨ k = 13 ∨ k = 14
instance (k : Int) : Decidable (skips k) := by unfold skips; infer_instance
def dupF : List It → List Int → Bool
  | [], _ => false
  | x :: l, seen => if skips x.b.kind then dupF l seen else if x.b.node ∈ seen then true else dupF l (ins seen x.b.node)
theorem dup_skip {L : List It} {i : Nat} {s : List Int} (h : i < L.length) (hk : skips (gt L i).b.kind) : dupF (L.drop i) s = dupF (L.drop (i + 1)) s := by rw [drop_gt h, dupF, if_pos hk]
theorem dup_in {L : List It} {i : Nat} {s : List Int} (h : i < L.length) (hk : ¬ skips (gt L i).b.kind) (hm : (gt L i).b.node ∈ s) : dupF (L.drop i) s = true := by rw [drop_gt h, dupF, if_neg hk, if_pos hm]
theorem dup_new {L : List It} {i : Nat} {s : List Int} (h : i < L.length) (hk : ¬ skips (gt L i).b.kind) (hm : ¬ (gt L i).b.node ∈ s) : dupF (L.drop i) s = dupF (L.drop (i + 1)) (ins s (gt L i).b.node) := by rw [drop_gt h, dupF, if_neg hk, if_neg hm]
def checkF (N : B → Bool) (b : B) : Int := if b.count > 96 ∨ deepF b > 24 then 2 else if b.kind = 10 ∨ b.kind = 12 ∨ rightF N b = false then 4 else if dupF (itemsF b (-1) 0 0) [] = true then 8 else 0
def Mp (l : List Int) : Option Blk := some (.mp (ents l))
attribute [go_sem] Mp
theorem check_ok (N : B → Bool) (b : B) (hs : b.size ≤ 100000) (hr : AFn env 17 [b.a] [] (aB (rightF N b)) []) : AFn env 7 [b.a] [] (aI (checkF N b)) [] := by
  have hd := deepF_le b
  have hlen := itemsF_len b (-1) 0 0
  refine afn_body Tryz.func7 rfl (by decide) ?_
  simp only [Tryz.ntmps7, Tryz.results7, List.length_cons, List.length_nil, List.cons_append, List.nil_append, Nat.reduceAdd, Nat.reduceSub, List.replicate]
  refine awp_seq ?_
  refine awp_region ?_
  refine zT ?_
  repeat' first
  | ((with_reducible refine awp_seqQ ?_); intro _ _)
  | ((with_reducible refine awp_region ?_); refine zS ?_)
  | ((with_reducible refine Gd_nd ?_ ?_) <;> intro hb hb2 <;> first | contradiction | (exfalso; omega) | (refine zH hb2 ?_; try clear hb2))
  | ((with_reducible refine AWP_c ?_); refine zcdT ?_)
  | ((with_reducible refine AWP_c ?_); refine zcdD ?_ ?_ <;> intro hb hb2 <;> first | contradiction | (exfalso; omega) | ((try refine zH hb2 ?_); try clear hb2))
  | ((with_reducible refine AWP_c ?_); refine zcdM ?_ ?_ <;> intro hb <;> first | contradiction | (try refine zH hb ?_))
  | ((with_reducible refine awp_skip ?_); try refine zS ?_)
  | with_reducible refine awp_block ?_
  | ((with_reducible refine CallK_id ?_); refine zcF ?_; refine ⟨_, by first | exact items_ok b (by omega) | exact deep_ok b hs | exact hr | fail, fun _ => rfl, fun _ => rfl, rfl, ?_⟩; try refine zS ?_)
  | ((with_reducible refine awp_ret ?_); refine q_step (by assumption) ?_)
  | with_reducible refine fin_r ?_
  | ((with_reducible refine q_step (by assumption) ?_); try refine zS ?_)
  all_goals first
    | (simp only [checkF]; rw [if_pos (by first | exact .inl (by omega) | exact .inr (by omega))]; done)
    | (simp only [checkF]; rw [if_neg (by omega), if_pos (by first | exact .inl (by assumption) | exact .inr (.inl (by assumption)) | exact .inr (.inr (by assumption)))]; done)
    | skip
  have h0 : checkF N b = if dupF (itemsF b (-1) 0 0) [] = true then 8 else 0 := by
    simp only [checkF]
    rw [if_neg (by omega), if_neg (by rintro (h | h | h) <;> simp_all)]
  clear hr
  generalize hL : itemsF b (-1) 0 0 = L at *
  refine awp_loopT (fun s : Nat × List Int => s.1 ≤ L.length ∧ dupF L [] = dupF (L.drop s.1) s.2) (fun s => L.length - s.1) (fun s => [(35, aI s.1)]) (fun s => [some (.box b.bs), Mp s.2]) (0, []) ⟨by simp, rfl⟩
    (wk_le (by simp only [go_sem, Bool.not_not, List.mem_singleton, forall_eq, ↓reduceIte, if_pos, rowsAt_map, wrap64, wrapu8, List.getElem?_cons_zero, List.getElem?_cons_succ, Int.reduceToNat, Nat.reduceAdd, Nat.reduceBEq, Bool.or_false, Bool.false_or, Bool.true_or, Nat.reduceSub, Nat.reduceMul, Int.reduceAdd, Int.reduceEq, Int.reduceLT, Int.reduceLE, Int.reduceNeg, Nat.reduceLT, Nat.reduceLeDiff, Nat.reduceEqDiff]; simp) (by simp only [go_sem, Bool.not_not, List.mem_singleton, forall_eq, ↓reduceIte, if_pos, rowsAt_map, wrap64, wrapu8, List.getElem?_cons_zero, List.getElem?_cons_succ, Int.reduceToNat, Nat.reduceAdd, Nat.reduceBEq, Bool.or_false, Bool.false_or, Bool.true_or, Nat.reduceSub, Nat.reduceMul, Int.reduceAdd, Int.reduceEq, Int.reduceLT, Int.reduceLE, Int.reduceNeg, Nat.reduceLT, Nat.reduceLeDiff, Nat.reduceEqDiff, ents_nil])) ?_
  rintro ⟨i, sn⟩ ⟨h1, h2⟩
  simp only at h1 h2
  refine zT ?_
  repeat' first
  | ((with_reducible refine awp_seqQ ?_); intro _ _)
  | ((with_reducible refine awp_region ?_); refine zS ?_)
  | ((with_reducible refine AWP_c ?_); refine zcdT ?_)
  | ((with_reducible refine AWP_c ?_); refine zcdD ?_ ?_ <;> intro hb hb2 <;> first | contradiction | (exfalso; omega) | ((try refine zH hb2 ?_); try clear hb2))
  | ((with_reducible refine awp_skip ?_); try refine zS ?_)
  | with_reducible refine awp_block ?_
  | ((with_reducible refine awp_exit ?_); try refine zS ?_)
  | ((with_reducible refine awp_ret ?_); refine q_step (by assumption) ?_)
  | with_reducible refine fin_r ?_
  | ((with_reducible refine q_step (by assumption) ?_); try refine zS ?_)
  all_goals first
    | exact ⟨(i + 1, sn), ⟨by simp only; omega, by rw [h2, dup_skip (by omega) (by unfold skips; omega)]⟩, by simp only; omega, zwc 2⟩
    | exact ⟨(i + 1, ins sn (gt L i).b.node), ⟨by simp only; omega, by rw [h2, dup_new (by omega) (by unfold skips; omega) (by assumption)]⟩, by simp only; omega, zwc 2⟩
    | (rw [h0, h2, dup_in (by omega) (by unfold skips; omega) (by assumption)]; rfl)
    | (rw [h0, h2, List.drop_eq_nil_of_le (by omega), dupF]; rfl)
    | trace_state
def bOne : B := .mk 2 1 0 0 t0 [] [] [] [] []
def bTwo : B := .mk 5 2 0 0 t0 [] [] [] [] []
def bA : B := .mk 6 0 0 0 t0 [] [bOne, bTwo] [] [] []
def bB : B := .mk 6 0 0 0 t0 [] [bOne, bOne] [] [] []
mutual
def small : B → Bool
  | .mk k _ _ _ _ _ ks _ _ _ => (decide (k = 2) || decide (k = 5) || decide (k = 6)) && smalls ks
def smalls : List B → Bool
  | [] => true
  | k :: l => small k && smalls l
end
theorem smalls_mem : ∀ {l : List B}, smalls l = true → ∀ k ∈ l, small k = true
  | [], _, k, h => by simp at h
  | x :: l, h, k, hk => by
    simp only [smalls, Bool.and_eq_true] at h
    rcases List.mem_cons.1 hk with rfl | hk
    · exact h.1
    · exact smalls_mem h.2 k hk
theorem small_kids (b : B) (h : small b = true) : ∀ k ∈ b.kids, small k = true := by
  cases b with | mk => simp only [small, Bool.and_eq_true] at h; exact smalls_mem h.2
def numS (b : B) : Bool := if b.kind = 2 then decide (0 ≤ b.x) && decide (b.x < 4) else if b.kind = 5 then true else decide (1 < b.kids.length)
theorem small_bare (b : B) (h : small b = true) : AFn env 26 [b.a] [] (bareF b).a [] := by
  cases b with | mk k n x y t c ks l ns fs =>
  simp only [small, Bool.and_eq_true, Bool.or_eq_true, decide_eq_true_eq] at h
  rcases h.1 with (rfl | rfl) | rfl
  · exact bare2_ok ..
  · exact bare5_ok ..
  · exact bare6_ok ..
theorem small_num (b : B) (h : small b = true) : AFn env 27 [b.a] [] (aB (numS b)) [] := by
  cases b with | mk k n x y t c ks l ns fs =>
  simp only [small, Bool.and_eq_true, Bool.or_eq_true, decide_eq_true_eq] at h
  rcases h.1 with (rfl | rfl) | rfl
  · exact num2_ok ..
  · exact num5_ok ..
  · exact num6_ok ..
theorem small_right (b : B) (h : small b = true) (hs : b.size ≤ 100000) : AFn env 17 [b.a] [] (aB (rightF numS b)) [] := right_ok numS small small_kids small_bare small_num b h hs
theorem small_check (b : B) (h : small b = true) (hs : b.size ≤ 100000) : AFn env 7 [b.a] [] (aI (checkF numS b)) [] := check_ok numS b hs (small_right b h hs)
theorem check_a : checkF numS bA = 0 := by decide
theorem check_b : checkF numS bB = 8 := by decide
theorem ca : AFn env 7 [bA.a] [] (aI 0) [] := by have := small_check bA (by decide) (by decide); rwa [check_a] at this
theorem cb : AFn env 7 [bB.a] [] (aI 8) [] := by have := small_check bB (by decide) (by decide); rwa [check_b] at this
theorem sa : AFn env 13 [bA.a] [] (aI 3) [] := by have := size_ok bA (by decide); rwa [show bA.count = 3 by decide] at this
theorem ia : AFn env 14 [bA.a] [] (aF ((itemsF bA (-1) 0 0).map It.row)) [] := items_ok bA (by decide)
theorem ea : AFn env 15 [bA.a, bA.a] [] (aB true) [] := by have := sameB_ok bA bA (by decide); rwa [show eqB bA bA = true by decide] at this
theorem la : (itemsF bA (-1) 0 0).length = 3 := by decide
attribute [go_sem] la
theorem twice_ok : AFn env 6 [] [] (aB true) [] := by
  refine afn_body Tryz.func6 rfl (by decide) ?_
  simp only [Tryz.ntmps6, Tryz.results6, List.length_cons, List.length_nil, List.cons_append, List.nil_append, Nat.reduceAdd, Nat.reduceSub, List.replicate]
  iterate 4 (refine awp_seq ?_; refine awp_region ?_; refine zS ?_)
  refine awp_wk (wk_fzB (i := 2) (j := 8) rfl) ?_
  refine awp_wk (wk_fzB (i := 4) (j := 8) rfl) ?_
  refine zT ?_
  repeat' first
  | ((with_reducible refine awp_seqQ ?_); intro _ _)
  | ((with_reducible refine awp_region ?_); refine zS ?_)
  | ((with_reducible refine Gd_d ?_ ?_) <;> intro hb hb2 <;> first | contradiction | (exfalso; omega) | (refine zH hb2 ?_; try clear hb2))
  | ((with_reducible refine CallK_id ?_); refine zcF ?_; refine ⟨_, by first | exact ca | exact cb | exact sa | exact ia | exact ea | fail, fun _ => rfl, fun _ => rfl, rfl, ?_⟩; try refine zS ?_)
  | ((with_reducible refine awp_ret ?_); refine q_step (by assumption) ?_)
  | with_reducible refine fin_r ?_
  all_goals rfl
end Go.Eng
open Go Go.Proofs
namespace Go.Eng
set_option linter.unusedSimpArgs false
set_option linter.unusedVariables false
set_option maxRecDepth 10000
set_option maxHeartbeats 4000000
theorem indexFuncT1_ok (l : List T) (f : FuncId) (p : T → Bool) (ds : List D) (hp : ∀ x ∈ l, AFn env f [x.a, .c (.ptr 0 0 0 0)] [some (.box (ds.map .d))] (aB (p x)) [some (.box (ds.map .d))]) (hl : l.length < 4611686018427387904) :
    AFn env 105 [aF (l.map T.row), .c (.clo (.func f) [.ptr 0 0 0 0])] [some (.box (ds.map .d))] (aI (idxF p l 0)) [some (.box (ds.map .d))] := by
  refine afn_body Tryz.func105 rfl (by decide) ?_
  simp only [Tryz.ntmps105, Tryz.results105, List.length_cons, List.length_nil, List.cons_append, List.nil_append, Nat.reduceAdd, Nat.reduceSub, List.replicate]
  repeat' first
  | with_reducible refine awp_seq ?_
  | ((with_reducible refine awp_region ?_); refine zS ?_)
  | with_reducible refine awp_block ?_
  refine awp_loopT (fun i : Nat => i ≤ l.length ∧ idxF p (l.drop i) i = idxF p l 0) (fun i => l.length - i) (fun i => [(8, aI i)]) (fun _ => [some (.box (ds.map .d))]) 0 ⟨by omega, rfl⟩ (wk_le (by simp only [go_sem, Bool.not_not, List.mem_singleton, forall_eq, ↓reduceIte, if_pos, rowsAt_map, wrap64, wrapu8, List.getElem?_cons_zero, List.getElem?_cons_succ, Int.reduceToNat, Nat.reduceAdd, Nat.reduceBEq, Bool.or_false, Bool.false_or, Bool.true_or, Nat.reduceSub, Nat.reduceMul, Int.reduceAdd, Int.reduceEq, Int.reduceLT, Int.reduceLE, Int.reduceNeg, Nat.reduceLT, Nat.reduceLeDiff, Nat.reduceEqDiff]; simp) (by simp only [go_sem])) ?_
  rintro i ⟨h1, h2⟩
  simp only [go_sem]
  repeat' first
  | with_reducible refine awp_seq ?_
  | ((with_reducible refine awp_region ?_); refine zS ?_)
  | ((with_reducible refine AWP_c ?_); refine zcdD ?_ ?_ <;> intro hb hb2 <;> first | contradiction | (exfalso; omega) | ((try refine zH hb2 ?_); try clear hb2))
  | ((with_reducible refine AWP_c ?_); refine zcdB ?_ ?_ <;> intro hb <;> first | contradiction | (try refine zH hb ?_))
  | ((with_reducible refine awp_ret ?_); refine fin_r ?_)
  | ((with_reducible refine awp_skip ?_); refine zS ?_)
  | with_reducible refine awp_block ?_
  | ((with_reducible refine awp_exit ?_); refine zS ?_)
  | ((with_reducible refine CallK_id ?_); refine zcT [0] ?_; refine ⟨_, _, by first | exact hp _ (gt_mem (by omega)) | fail, ?_⟩; try refine zS ?_)
  · have hi : i < l.length := by omega
    rw [← h2, drop_gt hi, idxF, if_pos (by simp [hb])]
  · have hi : i < l.length := by omega
    exact ⟨i + 1, ⟨by omega, by rw [← h2, drop_gt hi, idxF, if_neg (by simp [hb])]⟩, by omega, wk_le (by simp only [go_sem, Bool.not_not, List.mem_singleton, forall_eq, ↓reduceIte, if_pos, rowsAt_map, wrap64, wrapu8, List.getElem?_cons_zero, List.getElem?_cons_succ, Int.reduceToNat, Nat.reduceAdd, Nat.reduceBEq, Bool.or_false, Bool.false_or, Bool.true_or, Nat.reduceSub, Nat.reduceMul, Int.reduceAdd, Int.reduceEq, Int.reduceLT, Int.reduceLE, Int.reduceNeg, Nat.reduceLT, Nat.reduceLeDiff, Nat.reduceEqDiff]; simp) (by simp only [go_sem])⟩
  · have hi : i = l.length := by omega
    subst hi
    rw [← h2, List.drop_length, idxF]
theorem indexFuncT0_ok (l : List T) (f : FuncId) (p : T → Bool) (hp : ∀ x ∈ l, AFn env f [x.a] [] (aB (p x)) []) (hl : l.length < 4611686018427387904) :
    AFn env 105 [aF (l.map T.row), .c (.clo (.func f) [])] [] (aI (idxF p l 0)) [] := by
  refine afn_body Tryz.func105 rfl (by decide) ?_
  simp only [Tryz.ntmps105, Tryz.results105, List.length_cons, List.length_nil, List.cons_append, List.nil_append, Nat.reduceAdd, Nat.reduceSub, List.replicate]
  repeat' first
  | with_reducible refine awp_seq ?_
  | ((with_reducible refine awp_region ?_); refine zS ?_)
  | with_reducible refine awp_block ?_
  refine awp_loopT (fun i : Nat => i ≤ l.length ∧ idxF p (l.drop i) i = idxF p l 0) (fun i => l.length - i) (fun i => [(8, aI i)]) (fun _ => []) 0 ⟨by omega, rfl⟩ (wk_le (by simp only [go_sem, Bool.not_not, List.mem_singleton, forall_eq, ↓reduceIte, if_pos, rowsAt_map, wrap64, wrapu8, List.getElem?_cons_zero, List.getElem?_cons_succ, Int.reduceToNat, Nat.reduceAdd, Nat.reduceBEq, Bool.or_false, Bool.false_or, Bool.true_or, Nat.reduceSub, Nat.reduceMul, Int.reduceAdd, Int.reduceEq, Int.reduceLT, Int.reduceLE, Int.reduceNeg, Nat.reduceLT, Nat.reduceLeDiff, Nat.reduceEqDiff]; simp) (by simp only [go_sem])) ?_
  rintro i ⟨h1, h2⟩
  simp only [go_sem]
  repeat' first
  | with_reducible refine awp_seq ?_
  | ((with_reducible refine awp_region ?_); refine zS ?_)
  | ((with_reducible refine AWP_c ?_); refine zcdD ?_ ?_ <;> intro hb hb2 <;> first | contradiction | (exfalso; omega) | ((try refine zH hb2 ?_); try clear hb2))
  | ((with_reducible refine AWP_c ?_); refine zcdB ?_ ?_ <;> intro hb <;> first | contradiction | (try refine zH hb ?_))
  | ((with_reducible refine awp_ret ?_); refine fin_r ?_)
  | ((with_reducible refine awp_skip ?_); refine zS ?_)
  | with_reducible refine awp_block ?_
  | ((with_reducible refine awp_exit ?_); refine zS ?_)
  | ((with_reducible refine CallK_id ?_); refine zcF ?_; refine ⟨_, by first | exact hp _ (gt_mem (by omega)) | fail, fun _ => rfl, fun _ => rfl, rfl, ?_⟩; try refine zS ?_)
  · have hi : i < l.length := by omega
    rw [← h2, drop_gt hi, idxF, if_pos (by simp [hb])]
  · have hi : i < l.length := by omega
    exact ⟨i + 1, ⟨by omega, by rw [← h2, drop_gt hi, idxF, if_neg (by simp [hb])]⟩, by omega, wk_le (by simp only [go_sem, Bool.not_not, List.mem_singleton, forall_eq, ↓reduceIte, if_pos, rowsAt_map, wrap64, wrapu8, List.getElem?_cons_zero, List.getElem?_cons_succ, Int.reduceToNat, Nat.reduceAdd, Nat.reduceBEq, Bool.or_false, Bool.false_or, Bool.true_or, Nat.reduceSub, Nat.reduceMul, Int.reduceAdd, Int.reduceEq, Int.reduceLT, Int.reduceLE, Int.reduceNeg, Nat.reduceLT, Nat.reduceLeDiff, Nat.reduceEqDiff]; simp) (by simp only [go_sem])⟩
  · have hi : i = l.length := by omega
    subst hi
    rw [← h2, List.drop_length, idxF]
theorem containsFuncT1_ok (l : List T) (f : FuncId) (p : T → Bool) (ds : List D) (hp : ∀ x ∈ l, AFn env f [x.a, .c (.ptr 0 0 0 0)] [some (.box (ds.map .d))] (aB (p x)) [some (.box (ds.map .d))]) (hl : l.length < 4611686018427387904) :
    AFn env 87 [aF (l.map T.row), .c (.clo (.func f) [.ptr 0 0 0 0])] [some (.box (ds.map .d))] (aB (l.any p)) [some (.box (ds.map .d))] := by
  rw [← idxF_any p l 0]
  refine afn_body Tryz.func87 rfl (by decide) ?_
  simp only [Tryz.ntmps87, Tryz.results87, List.length_cons, List.length_nil, List.cons_append, List.nil_append, Nat.reduceAdd, Nat.reduceSub, List.replicate]
  repeat' first
  | with_reducible refine awp_seq ?_
  | ((with_reducible refine awp_region ?_); refine zS ?_)
  | ((with_reducible refine awp_ret ?_); refine fin_r ?_)
  | ((with_reducible refine CallK_id ?_); refine zcT [0] ?_; refine ⟨_, _, by first | exact indexFuncT1_ok l f p ds hp hl | fail, ?_⟩; try refine zS ?_)
  all_goals rfl
theorem containsFuncT0_ok (l : List T) (f : FuncId) (p : T → Bool) (hp : ∀ x ∈ l, AFn env f [x.a] [] (aB (p x)) []) (hl : l.length < 4611686018427387904) :
    AFn env 87 [aF (l.map T.row), .c (.clo (.func f) [])] [] (aB (l.any p)) [] := by
  rw [← idxF_any p l 0]
  refine afn_body Tryz.func87 rfl (by decide) ?_
  simp only [Tryz.ntmps87, Tryz.results87, List.length_cons, List.length_nil, List.cons_append, List.nil_append, Nat.reduceAdd, Nat.reduceSub, List.replicate]
  repeat' first
  | with_reducible refine awp_seq ?_
  | ((with_reducible refine awp_region ?_); refine zS ?_)
  | ((with_reducible refine awp_ret ?_); refine fin_r ?_)
  | ((with_reducible refine CallK_id ?_); refine zcF ?_; refine ⟨_, by first | exact indexFuncT0_ok l f p hp hl | fail, fun _ => rfl, fun _ => rfl, rfl, ?_⟩; try refine zS ?_)
  all_goals rfl
mutual
def deepTF : T → Int → Bool
  | .mk _ _ k, d => decide (d > 24) || deepTs k (d + 1)
def deepTs : List T → Int → Bool
  | [], _ => false
  | t :: l, d => deepTF t d || deepTs l d
end
theorem deepTs_eq (d : Int) : ∀ l : List T, deepTs l d = l.any fun t => deepTF t d
  | [] => rfl
  | t :: l => by simp only [deepTs, List.any_cons, deepTs_eq d l]
theorem deepTF_eq (t : T) (d : Int) : deepTF t d = (decide (d > 24) || t.kids.any fun t => deepTF t (d + 1)) := by
  cases t with | mk o n k => rw [deepTF, deepTs_eq]; rfl
theorem deepT1_ok (k : T) (d : Int) (hd : d ≤ 24) (hd0 : 0 ≤ d) (h : AFn env 85 [k.a, aI (d + 1)] [] (aB (deepTF k (d + 1))) []) : AFn env 103 [k.a, .c (.ptr 0 0 0 0)] [some (.box [.d (dI d)])] (aB (deepTF k (d + 1))) [some (.box [.d (dI d)])] := by
  refine afn_body Tryz.func103 rfl (by decide) ?_
  simp only [Tryz.ntmps103, Tryz.results103, List.length_cons, List.length_nil, List.cons_append, List.nil_append, Nat.reduceAdd, Nat.reduceSub, List.replicate]
  repeat' first
  | with_reducible refine awp_seq ?_
  | ((with_reducible refine awp_region ?_); refine zS ?_)
  | ((with_reducible refine awp_ret ?_); refine fin_r ?_)
  | ((with_reducible refine CallK_id ?_); refine zcF ?_; refine ⟨_, by first | exact h | fail, fun _ => rfl, fun _ => rfl, rfl, ?_⟩; try refine zS ?_)
  all_goals rfl
theorem deepT_ok (t : T) (d : Int) (hs : t.size < 4611686018427387904) (hd : d ≤ 25) (hd0 : 0 ≤ d) : AFn env 85 [t.a, aI d] [] (aB (deepTF t d)) [] := by
  generalize hn : t.size = n
  induction n using Nat.strongRecOn generalizing t d with
  | _ n ih0 =>
    have hl := t.kids_len
    have ih : ∀ k d, k.size < t.size → d ≤ 25 → 0 ≤ d → AFn env 85 [k.a, aI d] [] (aB (deepTF k d)) [] := fun k d h h2 h3 => ih0 k.size (by omega) k d (by omega) h2 h3 rfl
    refine afn_body Tryz.func85 rfl (by decide) ?_
    simp only [Tryz.ntmps85, Tryz.results85, List.length_cons, List.length_nil, List.cons_append, List.nil_append, Nat.reduceAdd, Nat.reduceSub, List.replicate]
    repeat' first
    | with_reducible refine awp_seq ?_
    | ((with_reducible refine awp_region ?_); refine zS ?_)
    | ((with_reducible refine Gd_nd ?_ ?_) <;> intro hb hb2 <;> first | contradiction | (exfalso; omega) | (refine zH hb2 ?_; try clear hb2))
    | ((with_reducible refine awp_ret ?_); refine fin_r ?_)
    | ((with_reducible refine CallK_id ?_); refine zcT [1] ?_; refine ⟨_, _, by first | exact containsFuncT1_ok t.kids 103 (fun k => deepTF k (d + 1)) [dI d] (fun k hk => deepT1_ok k d (by omega) (by omega) (ih k (d + 1) (by have := T.size_lt hk; omega) (by omega) (by omega))) (by omega) | fail, ?_⟩; try refine zS ?_)
    · rw [deepTF_eq]; simp [go_sem, hb]
    · rw [deepTF_eq]; simp [go_sem, hb]
mutual
def shapedF : T → Bool
  | .mk o n k => if o = 1 then decide (k.length = 0) && decide (0 ≤ n) && decide (n ≤ 1099511627776) else if o = 2 then decide (k.length = 0) && decide (0 ≤ n) && decide (n < 4)
    else if o < 3 ∨ o > 14 ∨ n ≠ 0 ∨ (k.length : Int) ≠ (gt words o.toNat).kids then false else shapedFs k
def shapedFs : List T → Bool
  | [] => true
  | t :: l => shapedF t && shapedFs l
end
theorem shapedFs_eq : ∀ l : List T, shapedFs l = !(l.any fun t => !shapedF t)
  | [] => rfl
  | t :: l => by simp only [shapedFs, List.any_cons, shapedFs_eq l]; cases shapedF t <;> simp
theorem shapedF_eq (t : T) : shapedF t = if t.op = 1 then decide (t.kids.length = 0) && decide (0 ≤ t.n) && decide (t.n ≤ 1099511627776) else if t.op = 2 then decide (t.kids.length = 0) && decide (0 ≤ t.n) && decide (t.n < 4)
    else if t.op < 3 ∨ t.op > 14 ∨ t.n ≠ 0 ∨ (t.kids.length : Int) ≠ (gt words t.op.toNat).kids then false else !(t.kids.any fun t => !shapedF t) := by
  cases t with | mk o n k => rw [shapedF, shapedFs_eq]; rfl
theorem shaped1_ok (k : T) (h : AFn env 86 [k.a] [] (aB (shapedF k)) []) : AFn env 104 [k.a] [] (aB (!shapedF k)) [] := by
  refine afn_body Tryz.func104 rfl (by decide) ?_
  simp only [Tryz.ntmps104, Tryz.results104, List.length_cons, List.length_nil, List.cons_append, List.nil_append, Nat.reduceAdd, Nat.reduceSub, List.replicate]
  repeat' first
  | with_reducible refine awp_seq ?_
  | ((with_reducible refine awp_region ?_); refine zS ?_)
  | ((with_reducible refine awp_ret ?_); refine fin_r ?_)
  | ((with_reducible refine CallK_id ?_); refine zcF ?_; refine ⟨_, by first | exact h | fail, fun _ => rfl, fun _ => rfl, rfl, ?_⟩; try refine zS ?_)
  all_goals rfl
theorem shaped_ok (t : T) (hs : t.size < 4611686018427387904) : AFn env 86 [t.a] [] (aB (shapedF t)) [] := by
  generalize hn : t.size = n
  induction n using Nat.strongRecOn generalizing t with
  | _ n ih0 =>
    have hl := t.kids_len
    have hwl : words.length = 15 := rfl
    have ih : ∀ k, k.size < t.size → AFn env 86 [k.a] [] (aB (shapedF k)) [] := fun k h => ih0 k.size (by omega) k (by omega) rfl
    rw [shapedF_eq]
    refine afn_body Tryz.func86 rfl (by decide) ?_
    simp only [Tryz.ntmps86, Tryz.results86, List.length_cons, List.length_nil, List.cons_append, List.nil_append, Nat.reduceAdd, Nat.reduceSub, List.replicate]
    repeat' first
    | with_reducible refine awp_seq ?_
    | ((with_reducible refine awp_region ?_); refine zS ?_)
    | ((with_reducible refine Gd_d ?_ ?_) <;> intro hb hb2 <;> first | contradiction | (exfalso; omega) | (refine zH hb2 ?_; try clear hb2))
    | ((with_reducible refine awp_drawnC ?_ ?_); rfl; refine zS ?_)
    | ((with_reducible refine CGd_nd ?_ ?_) <;> intro hb hb2 <;> first | contradiction | (exfalso; omega) | (refine zH hb2 ?_; try clear hb2))
    | ((with_reducible refine CGd_d ?_ ?_) <;> intro hb hb2 <;> first | contradiction | (exfalso; omega) | (refine zH hb2 ?_; try clear hb2))
    | ((with_reducible refine AWP_c ?_); refine zcdT ?_)
    | ((with_reducible refine AWP_c ?_); refine zcdN ?_ ?_ <;> intro hb hb2 <;> first | contradiction | (exfalso; omega) | ((try refine zH hb2 ?_); try clear hb2))
    | ((with_reducible refine AWP_c ?_); refine zcdD ?_ ?_ <;> intro hb hb2 <;> first | contradiction | (exfalso; omega) | ((try refine zH hb2 ?_); try clear hb2))
    | ((with_reducible refine awp_ret ?_); refine fin_r ?_)
    | ((with_reducible refine awp_skip ?_); refine zS ?_)
    | with_reducible refine awp_block ?_
    | ((with_reducible refine CallK_id ?_); refine zcF ?_; refine ⟨_, by first | exact containsFuncT0_ok t.kids 104 (fun k => !shapedF k) (fun k hk => shaped1_ok k (ih k (T.size_lt hk))) (by omega) | fail, fun _ => rfl, fun _ => rfl, rfl, ?_⟩; try refine zS ?_)
    all_goals clear ih ih0 hn hl hs
    all_goals simp_all [go_sem]
    all_goals trace_state
def wrongTF (t : T) : Int := if deepTF t 1 = true then 2 else if shapedF t = true then 0 else 4
theorem wrongT_ok (t : T) (hs : t.size < 4611686018427387904) : AFn env 63 [t.a] [] (aI (wrongTF t)) [] := by
  refine afn_body Tryz.func63 rfl (by decide) ?_
  simp only [Tryz.ntmps63, Tryz.results63, List.length_cons, List.length_nil, List.cons_append, List.nil_append, Nat.reduceAdd, Nat.reduceSub, List.replicate]
  repeat' first
  | with_reducible refine awp_seq ?_
  | ((with_reducible refine awp_region ?_); refine zS ?_)
  | ((with_reducible refine AWP_c ?_); refine zcdM ?_ ?_ <;> intro hb <;> first | contradiction | (try refine zH hb ?_))
  | ((with_reducible refine AWP_c ?_); refine zcdB ?_ ?_ <;> intro hb <;> first | contradiction | (try refine zH hb ?_))
  | ((with_reducible refine awp_ret ?_); refine fin_r ?_)
  | ((with_reducible refine awp_skip ?_); refine zS ?_)
  | with_reducible refine awp_block ?_
  | ((with_reducible refine CallK_id ?_); refine zcF ?_; refine ⟨_, by first | exact deepT_ok _ _ (by omega) (by omega) (by omega) | exact shaped_ok _ (by omega) | fail, fun _ => rfl, fun _ => rfl, rfl, ?_⟩; try refine zS ?_)
  all_goals simp_all [go_sem, wrongTF]

mutual
def typedF : T → Int
  | .mk o _ k => if o = 1 ∨ o = 2 then 1 else if anyOff (gt words o.toNat).of k then 0 else (gt words o.toNat).out
def anyOff (w : Int) : List T → Bool
  | [] => false
  | t :: l => decide (typedF t ≠ w) || anyOff w l
end
theorem anyOff_eq (w : Int) : ∀ l : List T, anyOff w l = l.any fun t => decide (typedF t ≠ w)
  | [] => by rw [anyOff]; rfl
  | t :: l => by rw [anyOff, List.any_cons, anyOff_eq w l]
theorem typedF_eq (t : T) : typedF t = if t.op = 1 ∨ t.op = 2 then 1 else if (t.kids.any fun k => decide (typedF k ≠ (gt words t.op.toNat).of)) = true then 0 else (gt words t.op.toNat).out := by
  cases t with | mk o n k => rw [typedF, anyOff_eq]; rfl
theorem shaped_op {t : T} (h : shapedF t = true) (h1 : ¬ t.op = 1) (h2 : ¬ t.op = 2) : 3 ≤ t.op ∧ t.op ≤ 14 ∧ ∀ k ∈ t.kids, shapedF k = true := by
  rw [shapedF_eq, if_neg h1, if_neg h2] at h
  split at h
  · cases h
  · rename_i hn
    refine ⟨by omega, by omega, fun k hk => ?_⟩
    simp only [Bool.not_eq_true', List.any_eq_false, Bool.not_eq_true] at h
    have := h k hk
    simpa using this
def wds (w : Wd) : List D := [dS w.text, dI w.kids, dI w.of, dI w.out]
attribute [go_sem] wds
theorem typed1_ok (k : T) (w : Wd) (h : AFn env 64 [k.a] [] (aI (typedF k)) []) : AFn env 88 [k.a, .c (.ptr 0 0 0 0)] [some (.box ((wds w).map .d))] (aB (decide (typedF k ≠ w.of))) [some (.box ((wds w).map .d))] := by
  refine afn_body Tryz.func88 rfl (by decide) ?_
  simp only [Tryz.ntmps88, Tryz.results88, List.length_cons, List.length_nil, List.cons_append, List.nil_append, Nat.reduceAdd, Nat.reduceSub, List.replicate]
  repeat' first
  | with_reducible refine awp_seq ?_
  | ((with_reducible refine awp_region ?_); refine zS ?_)
  | ((with_reducible refine awp_drawnA ?_ ?_); rfl; refine zS ?_)
  | ((with_reducible refine DStep_id ?_); refine zdP ?_; refine ⟨_, by first | exact h | fail, fun _ => rfl, fun _ => rfl, rfl, (fun h => by first | cases h | fail), ?_⟩; try refine zS ?_)
  | ((with_reducible refine awp_ret ?_); refine fin_r ?_)
  all_goals simp [go_sem]
theorem typed_ok (t : T) (hs : t.size < 4611686018427387904) (hw : shapedF t = true) : AFn env 64 [t.a] [] (aI (typedF t)) [] := by
  generalize hn : t.size = n
  induction n using Nat.strongRecOn generalizing t with
  | _ n ih0 =>
    have hl := t.kids_len
    have hwl : words.length = 15 := rfl
    have ih : ∀ k, k.size < t.size → shapedF k = true → AFn env 64 [k.a] [] (aI (typedF k)) [] := fun k h h2 => ih0 k.size (by omega) k (by omega) h2 rfl
    have hop : ¬ t.op = 1 → ¬ t.op = 2 → 3 ≤ t.op ∧ t.op ≤ 14 := fun h1 h2 => ⟨(shaped_op hw h1 h2).1, (shaped_op hw h1 h2).2.1⟩
    have hk2 : ¬ t.op = 1 → ¬ t.op = 2 → ∀ k ∈ t.kids, shapedF k = true := fun h1 h2 => (shaped_op hw h1 h2).2.2
    rw [typedF_eq]
    refine afn_body Tryz.func64 rfl (by decide) ?_
    simp only [Tryz.ntmps64, Tryz.results64, List.length_cons, List.length_nil, List.cons_append, List.nil_append, Nat.reduceAdd, Nat.reduceSub, List.replicate]
    repeat' first
    | ((with_reducible refine awp_seqQ ?_); intro _ _)
    | ((with_reducible refine awp_region ?_); refine zS ?_)
    | ((with_reducible refine Gd_nd ?_ ?_) <;> intro hb hb2 <;> first | contradiction | (exfalso; omega) | (refine zH hb2 ?_; try clear hb2))
    | ((with_reducible refine AWP_c ?_); refine zcdT ?_)
    | ((with_reducible refine AWP_c ?_); refine zcdD ?_ ?_ <;> intro hb hb2 <;> first | contradiction | (exfalso; omega) | ((try refine zH hb2 ?_); try clear hb2))
    | ((with_reducible refine AWP_c ?_); refine zcdB ?_ ?_ <;> intro hb <;> first | contradiction | (try refine zH hb ?_))
    | ((with_reducible refine awp_skip ?_); try refine zS ?_)
    | ((with_reducible refine CallK_id ?_); refine zcT [1] ?_; refine ⟨_, _, by first | exact containsFuncT1_ok t.kids 88 (fun k => decide (typedF k ≠ (gt words t.op.toNat).of)) (wds (gt words t.op.toNat)) (fun k hk => typed1_ok k (gt words t.op.toNat) (ih k (T.size_lt hk) (hk2 (by assumption) (by assumption) k hk))) (by omega) | fail, ?_⟩; try refine zS ?_)
    | ((with_reducible refine awp_ret ?_); refine q_step (by assumption) ?_)
    | with_reducible refine fin_r ?_
    | ((with_reducible refine q_step (by assumption) ?_); try refine zS ?_)
    all_goals clear ih ih0 hn hw hop hk2
    all_goals first | rfl | (rw [if_neg (by omega), if_neg (fun h => by have := h.symm.trans hb; cases this)]; done) | (simp [go_sem, *]; done)
def checkTF (t : T) : Int × Int := if wrongTF t ≠ 0 then (0, wrongTF t) else if typedF t = 0 then (0, 30) else (typedF t, 0)
theorem wrong_shaped {t : T} (h : wrongTF t = 0) : shapedF t = true := by
  unfold wrongTF at h
  split at h
  · cases h
  · split at h
    · assumption
    · cases h
theorem checkT_ok (t : T) (hs : t.size < 4611686018427387904) : AFn env 48 [t.a] [] (.tup [aI (checkTF t).1, aI (checkTF t).2]) [] := by
  refine afn_body Tryz.func48 rfl (by decide) ?_
  simp only [Tryz.ntmps48, Tryz.results48, List.length_cons, List.length_nil, List.cons_append, List.nil_append, Nat.reduceAdd, Nat.reduceSub, List.replicate]
  repeat' first
  | ((with_reducible refine awp_seqQ ?_); intro _ _)
  | ((with_reducible refine awp_region ?_); refine zS ?_)
  | ((with_reducible refine AWP_c ?_); refine zcdN ?_ ?_ <;> intro hb hb2 <;> first | contradiction | (exfalso; omega) | ((try refine zH hb2 ?_); try clear hb2))
  | ((with_reducible refine AWP_c ?_); refine zcdD ?_ ?_ <;> intro hb hb2 <;> first | contradiction | (exfalso; omega) | ((try refine zH hb2 ?_); try clear hb2))
  | ((with_reducible refine awp_skip ?_); try refine zS ?_)
  | ((with_reducible refine CallK_id ?_); refine zcF ?_; refine ⟨_, by first | exact wrongT_ok t hs | exact typed_ok t hs (wrong_shaped ‹_›) | fail, fun _ => rfl, fun _ => rfl, rfl, ?_⟩; try refine zS ?_)
  | ((with_reducible refine awp_ret ?_); refine q_step (by assumption) ?_)
  | with_reducible refine fin_r ?_
  | ((with_reducible refine q_step (by assumption) ?_); try refine zS ?_)
  all_goals simp [go_sem, checkTF, *]
def ofF (t : T) (k : Int) : Bool := decide ((checkTF t).2 = 0) && decide ((checkTF t).1 = k)
theorem of_ok (t : T) (k : Int) (hs : t.size < 4611686018427387904) : AFn env 38 [t.a, aI k] [] (aB (ofF t k)) [] := by
  refine afn_body Tryz.func38 rfl (by decide) ?_
  simp only [Tryz.ntmps38, Tryz.results38, List.length_cons, List.length_nil, List.cons_append, List.nil_append, Nat.reduceAdd, Nat.reduceSub, List.replicate]
  repeat' first
  | ((with_reducible refine awp_seqQ ?_); intro _ _)
  | ((with_reducible refine awp_region ?_); refine zS ?_)
  | ((with_reducible refine Gd_d ?_ ?_) <;> intro hb hb2 <;> first | contradiction | (exfalso; omega) | (refine zH hb2 ?_; try clear hb2))
  | ((with_reducible refine CallK_id ?_); refine zcF ?_; refine ⟨_, by first | exact checkT_ok t hs | fail, fun _ => rfl, fun _ => rfl, rfl, ?_⟩; try refine zS ?_)
  | ((with_reducible refine awp_ret ?_); refine q_step (by assumption) ?_)
  | with_reducible refine fin_r ?_
  | ((with_reducible refine q_step (by assumption) ?_); try refine zS ?_)
  all_goals simp [go_sem, ofF, *]
theorem noneT_ok (t : T) (hs : t.size < 4611686018427387904) : AFn env 49 [t.a] [] (aB (eqT t t0)) [] := by
  refine afn_body Tryz.func49 rfl (by decide) ?_
  simp only [Tryz.ntmps49, Tryz.results49, List.length_cons, List.length_nil, List.cons_append, List.nil_append, Nat.reduceAdd, Nat.reduceSub, List.replicate]
  repeat' first
  | ((with_reducible refine awp_seqQ ?_); intro _ _)
  | ((with_reducible refine awp_region ?_); refine zS ?_)
  | ((with_reducible refine CallK_id ?_); refine zcF ?_; refine ⟨_, by first | exact same_ok t t0 hs | fail, fun _ => rfl, fun _ => rfl, rfl, ?_⟩; try refine zS ?_)
  | ((with_reducible refine awp_ret ?_); refine q_step (by assumption) ?_)
  | with_reducible refine fin_r ?_
  | ((with_reducible refine q_step (by assumption) ?_); try refine zS ?_)
  all_goals rfl
def condsL (other : Int) : List T → Nat → Bool
  | [], _ => true
  | t :: l, i => (decide ((i : Int) = other) || ofF t 2) && condsL other l (i + 1)
def condsF (l : List T) (other : Int) : Bool := decide (0 ≤ other) && decide (other < l.length) && eqT (gt l other.toNat) t0 && condsL other l 0
theorem conds_ok (l : List T) (other : Int) (hs : T.sizes l < 4611686018427387904) : AFn env 39 [aF (l.map T.row), aI other] [] (aB (condsF l other)) [] := by
  have hl := T.len_le l
  refine afn_body Tryz.func39 rfl (by decide) ?_
  simp only [Tryz.ntmps39, Tryz.results39, List.length_cons, List.length_nil, List.cons_append, List.nil_append, Nat.reduceAdd, Nat.reduceSub, List.replicate]
  refine awp_seq ?_
  refine awp_region ?_
  refine zT ?_
  refine awp_cut (fun _ : Unit => (0 ≤ other ∧ other < l.length) ∧ eqT (gt l other.toNat) t0 = true) (fun _ => []) (fun _ => []) ?_ ?_
  · repeat' first
    | ((with_reducible refine awp_seqQ ?_); intro _ _)
    | ((with_reducible refine awp_region ?_); refine zS ?_)
    | ((with_reducible refine Gd_nd ?_ ?_) <;> intro hb hb2 <;> first | contradiction | (exfalso; omega) | (refine zH hb2 ?_; try clear hb2))
    | ((with_reducible refine AWP_c ?_); refine zcdT ?_)
    | ((with_reducible refine AWP_c ?_); refine zcdM ?_ ?_ <;> intro hb <;> first | contradiction | (try refine zH hb ?_))
    | ((with_reducible refine awp_skip ?_); try refine zS ?_)
    | ((with_reducible refine CallK_id ?_); refine zcF ?_; refine ⟨_, by first | exact noneT_ok _ (by have := T.size_kid (gt_mem (l := l) (i := other.toNat) (by omega)); omega) | fail, fun _ => rfl, fun _ => rfl, rfl, ?_⟩; try refine zS ?_)
    | ((with_reducible refine awp_ret ?_); refine q_step (by assumption) ?_)
    | with_reducible refine fin_r ?_
    | ((with_reducible refine q_step (by assumption) ?_); try refine zS ?_)
    all_goals first
      | exact ⟨(), ⟨⟨by omega, by omega⟩, by assumption⟩, wk_le (by simp only [go_sem]) (by simp only [go_sem])⟩
      | (simp [go_sem, condsF, *]; done)
      | (rw [condsF, decide_eq_false (p := 0 ≤ other) (by omega)]; rfl)
      | (rw [condsF, decide_eq_false (p := other < l.length) (by omega), Bool.and_false]; rfl)
      | trace_state
  rintro _ ⟨⟨m1, m2⟩, m3⟩
  have h0 : condsF l other = condsL other l 0 := by rw [condsF, decide_eq_true m1, decide_eq_true m2, m3]; rfl
  refine zT ?_
  repeat' first
  | ((with_reducible refine awp_seqQ ?_); intro _ _)
  | ((with_reducible refine awp_region ?_); refine zS ?_)
  | with_reducible refine awp_block ?_
  refine awp_loopT (fun i : Nat => i ≤ l.length ∧ condsL other l 0 = condsL other (l.drop i) i) (fun i => l.length - i) (fun i => [(25, aI i)]) (fun _ => []) 0 ⟨by omega, rfl⟩ zwl ?_
  rintro i ⟨h1, h2⟩
  refine zT ?_
  repeat' first
  | ((with_reducible refine awp_seqQ ?_); intro _ _)
  | ((with_reducible refine awp_region ?_); refine zS ?_)
  | ((with_reducible refine Gd_nd ?_ ?_) <;> intro hb hb2 <;> first | contradiction | (exfalso; omega) | (refine zH hb2 ?_; try clear hb2))
  | ((with_reducible refine AWP_c ?_); refine zcdF ?_)
  | ((with_reducible refine AWP_c ?_); refine zcdD ?_ ?_ <;> intro hb hb2 <;> first | contradiction | (exfalso; omega) | ((try refine zH hb2 ?_); try clear hb2))
  | ((with_reducible refine AWP_c ?_); refine zcdM ?_ ?_ <;> intro hb <;> first | contradiction | (try refine zH hb ?_))
  | ((with_reducible refine awp_skip ?_); try refine zS ?_)
  | with_reducible refine awp_block ?_
  | ((with_reducible refine awp_exit ?_); try refine zS ?_)
  | ((with_reducible refine CallK_id ?_); refine zcF ?_; refine ⟨_, by first | exact of_ok _ 2 (by have := T.size_kid (gt_mem (l := l) (i := i) (by omega)); omega) | fail, fun _ => rfl, fun _ => rfl, rfl, ?_⟩; try refine zS ?_)
  | ((with_reducible refine awp_ret ?_); refine q_step (by assumption) ?_)
  | with_reducible refine fin_r ?_
  | ((with_reducible refine q_step (by assumption) ?_); try refine zS ?_)
  all_goals first
    | (rw [h0, h2, drop_gt (by omega), condsL, ‹ofF _ 2 = false›, decide_eq_false (by omega)]; rfl)
    | exact ⟨i + 1, ⟨by omega, by rw [h2, drop_gt (by omega), condsL, ‹ofF _ 2 = true›, Bool.or_true, Bool.true_and]⟩, by omega, zwc 0⟩
    | exact ⟨i + 1, ⟨by omega, by rw [h2, drop_gt (by omega), condsL, decide_eq_true (by omega), Bool.true_or, Bool.true_and]⟩, by omega, zwc 0⟩
    | (rw [h0, h2, List.drop_eq_nil_of_le (by omega), condsL])
    | trace_state
end Go.Eng
open Go Go.Proofs
namespace Go.Eng
set_option linter.unusedSimpArgs false
set_option linter.unusedVariables false
set_option maxRecDepth 10000
set_option maxHeartbeats 8000000
def inR (n i : Int) : Bool := decide (0 ≤ i) && decide (i < n)
theorem inR_ok (n i : Int) : AFn env 106 [aI i, P0] [Rm n] (aB (inR n i)) [Rm n] := by
  refine afn_body Tryz.func106 rfl (by decide) ?_
  simp only [Tryz.ntmps106, Tryz.results106, List.length_cons, List.length_nil, List.cons_append, List.nil_append, Nat.reduceAdd, Nat.reduceSub, List.replicate]
  repeat' first
  | ((with_reducible refine awp_seqQ ?_); intro _ _)
  | ((with_reducible refine awp_region ?_); refine zS ?_)
  | ((with_reducible refine Gd_d ?_ ?_) <;> intro hb hb2 <;> first | contradiction | (exfalso; omega) | (refine zH hb2 ?_; try clear hb2))
  | ((with_reducible refine awp_ret ?_); refine q_step (by assumption) ?_)
  | with_reducible refine fin_r ?_
  | ((with_reducible refine q_step (by assumption) ?_); try refine zS ?_)
  all_goals first | (simp [go_sem, inR, *]; done) | (simp [go_sem, inR, *]; omega)
def rkC (n : Int) (l : List Lk) : Int := if n < 0 ∨ n > 64 then 1 else if l.length > 256 then 2 else if (l.all fun e => inR n e.src && inR n e.dst) = true then 0 else 4
theorem rkC_ok (n : Int) (l : List Lk) : AFn env 89 [aI n, aF (l.map Lk.row)] [] (aI (rkC n l)) [] := by
  refine afn_body Tryz.func89 rfl (by decide) ?_
  simp only [Tryz.ntmps89, Tryz.results89, List.length_cons, List.length_nil, List.cons_append, List.nil_append, Nat.reduceAdd, Nat.reduceSub, List.replicate]
  refine awp_seq ?_
  refine awp_region ?_
  refine zT ?_
  refine awp_seq ?_
  refine awp_region ?_
  refine zT ?_
  repeat' first
  | ((with_reducible refine awp_seqQ ?_); intro _ _)
  | ((with_reducible refine awp_region ?_); refine zS ?_)
  | ((with_reducible refine Gd_nd ?_ ?_) <;> intro hb hb2 <;> first | contradiction | (exfalso; omega) | (refine zH hb2 ?_; try clear hb2))
  | ((with_reducible refine AWP_c ?_); refine zcdT ?_)
  | ((with_reducible refine AWP_c ?_); refine zcdD ?_ ?_ <;> intro hb hb2 <;> first | contradiction | (exfalso; omega) | ((try refine zH hb2 ?_); try clear hb2))
  | ((with_reducible refine awp_skip ?_); try refine zS ?_)
  | with_reducible refine awp_block ?_
  | ((with_reducible refine awp_ret ?_); refine q_step (by assumption) ?_)
  | with_reducible refine fin_r ?_
  | ((with_reducible refine q_step (by assumption) ?_); try refine zS ?_)
  all_goals first
    | (rw [rkC, if_pos (by omega)]; done)
    | (rw [rkC, if_neg (by omega), if_pos (by omega)]; done)
    | skip
  have h0 : rkC n l = if (l.all fun e => inR n e.src && inR n e.dst) = true then 0 else 4 := by rw [rkC, if_neg (by omega), if_neg (by omega)]
  refine awp_loopT (fun i : Nat => i ≤ l.length ∧ (l.all fun e => inR n e.src && inR n e.dst) = ((l.drop i).all fun e => inR n e.src && inR n e.dst)) (fun i => l.length - i) (fun i => [(22, aI i)]) (fun _ => [Rm n]) 0 ⟨by omega, rfl⟩ zwl ?_
  rintro i ⟨h1, h2⟩
  refine zT ?_
  repeat' first
  | ((with_reducible refine awp_seqQ ?_); intro _ _)
  | ((with_reducible refine awp_region ?_); refine zS ?_)
  | ((with_reducible refine Gd_b ?_ ?_) <;> intro hb <;> first | contradiction | refine zH hb ?_)
  | ((with_reducible refine AWP_c ?_); refine zcdT ?_)
  | ((with_reducible refine AWP_c ?_); refine zcdD ?_ ?_ <;> intro hb hb2 <;> first | contradiction | (exfalso; omega) | ((try refine zH hb2 ?_); try clear hb2))
  | ((with_reducible refine AWP_c ?_); refine zcdM ?_ ?_ <;> intro hb <;> first | contradiction | (try refine zH hb ?_))
  | ((with_reducible refine awp_skip ?_); try refine zS ?_)
  | with_reducible refine awp_block ?_
  | ((with_reducible refine awp_exit ?_); try refine zS ?_)
  | ((with_reducible refine CallK_id ?_); refine zcT [0] ?_; refine ⟨_, _, by first | exact inR_ok n _ | fail, ?_⟩; try refine zS ?_)
  | ((with_reducible refine awp_ret ?_); refine q_step (by assumption) ?_)
  | with_reducible refine fin_r ?_
  | ((with_reducible refine q_step (by assumption) ?_); try refine zS ?_)
  all_goals first
    | (rw [h0, h2, drop_gt (by omega), List.all_cons, ‹inR n _ = false›]; simp; done)
    | (rw [h0, h2, drop_gt (by omega), List.all_cons, ‹inR n (gt l i).dst = false›]; simp; done)
    | exact ⟨i + 1, ⟨by omega, by rw [h2, drop_gt (by omega), List.all_cons, ‹inR n (gt l i).src = true›, ‹inR n (gt l i).dst = true›]; rfl⟩, by omega, zwc 1⟩
    | (rw [h0, h2, List.drop_eq_nil_of_le (by omega)]; rfl)
    | trace_state
def bRow (b : Bool) : List D := [dB b]
def RwO (s : List Bool) : Option Blk := some (.rows 1 (s.map bRow))
theorem set_bRow (s : List Bool) (j : Nat) (b : Bool) : (s.map bRow).set j [D.sc (.bool b)] = (s.set j b).map bRow := by rw [List.map_set]; rfl
attribute [go_sem] RwO bRow set_bRow List.length_set
def gb (s : List Bool) (i : Int) : Bool := gt s i.toNat
def hot (s : List Bool) (e : Lk) : Bool := gb s e.src && !gb s e.dst
def cf : List Bool → Nat
  | [] => 0
  | b :: l => (if b = true then 0 else 1) + cf l
theorem cf_set : ∀ {s : List Bool} {j : Nat}, j < s.length → gt s j = false → cf (s.set j true) + 1 = cf s
  | [], j, h, _ => by simp at h
  | b :: l, 0, _, hb => by
    have : b = false := hb
    subst this
    simp [cf]; omega
  | b :: l, j + 1, h, hb => by
    have := cf_set (s := l) (j := j) (by simpa using h) (by simpa [gt, List.getD] using hb)
    simp only [List.set_cons_succ, cf]; omega
def spreadN : Nat → List Bool → List Lk → List Bool
  | 0, s, _ => s
  | n + 1, s, l => match l.find? (hot s) with | none => s | some e => spreadN n (s.set e.dst.toNat true) l
def spreadF (s : List Bool) (l : List Lk) : List Bool := spreadN (cf s) s l
theorem spread_none {s : List Bool} {l : List Lk} (h : l.find? (hot s) = none) : spreadF s l = s := by
  unfold spreadF
  cases cf s with
  | zero => rfl
  | succ n => rw [spreadN, h]
def inL (n : Nat) (l : List Lk) : Prop := ∀ e ∈ l, 0 ≤ e.src ∧ e.src < n ∧ 0 ≤ e.dst ∧ e.dst < n
theorem spread_some {s : List Bool} {l : List Lk} {e : Lk} (hl : inL s.length l) (h : l.find? (hot s) = some e) : spreadF s l = spreadF (s.set e.dst.toNat true) l ∧ cf (s.set e.dst.toNat true) < cf s := by
  have hm := hl e (List.mem_of_find?_eq_some h)
  have hh := List.find?_some h
  unfold hot gb at hh
  simp only [Bool.and_eq_true, Bool.not_eq_true'] at hh
  have hc := cf_set (s := s) (j := e.dst.toNat) (by omega) hh.2
  refine ⟨?_, by omega⟩
  unfold spreadF
  rw [← hc, spreadN, h]
theorem spread_ok (s : List Bool) (l : List Lk) (hs : s.length ≤ 100000) (hl : inL s.length l) (hll : l.length ≤ 100000) : AFn env 90 [Own s.length, aF (l.map Lk.row)] [RwO s] (.tup []) [RwO (spreadF s l)] := by
  refine afn_body Tryz.func90 rfl (by decide) ?_
  simp only [Tryz.ntmps90, Tryz.results90, List.length_cons, List.length_nil, List.cons_append, List.nil_append, Nat.reduceAdd, Nat.reduceSub, List.replicate]
  refine awp_scopeJ 0 (fun s1 : List Bool => s1.length = s.length ∧ spreadF s1 l = spreadF s l) (fun s1 => (Own s.length :: aF (l.map Lk.row) :: List.replicate 28 .any, [RwO s1])) cf rfl ?_ ?_
  · obtain ⟨s1, hs1⟩ : ∃ s1, s1 = s := ⟨s, rfl⟩
    have e1 : s1.length = s.length := by rw [hs1]
    have e2 : spreadF s1 l = spreadF s l := by rw [hs1]
    rw [show [RwO s] = [RwO s1] by rw [hs1]]
    clear hs1
    simp only [go_sem, Bool.not_not, List.mem_singleton, forall_eq, ↓reduceIte, if_pos, rowsAt_map, wrap64, wrapu8, List.getElem?_cons_zero, List.getElem?_cons_succ, Int.reduceToNat, Nat.reduceAdd, Nat.reduceBEq, Bool.or_false, Bool.false_or, Bool.true_or, Nat.reduceSub, Nat.reduceMul, Int.reduceAdd, Int.reduceEq, Int.reduceLT, Int.reduceLE, Int.reduceNeg, Nat.reduceLT, Nat.reduceLeDiff, Nat.reduceEqDiff, List.replicate]
    repeat' first
    | with_reducible refine awp_seq ?_
    | ((with_reducible refine awp_region ?_); refine zS ?_)
    | with_reducible refine awp_block ?_
    | ((with_reducible refine awp_label ?_); try refine zS ?_)
    refine awp_loopT (fun i : Nat => i ≤ l.length ∧ l.find? (hot s1) = (l.drop i).find? (hot s1)) (fun i => l.length - i) (fun i => [(8, aI i)]) (fun _ => [RwO s1]) 0 ⟨by omega, rfl⟩ zwl ?_
    rintro i ⟨h1, h2⟩
    have hR : i < l.length → 0 ≤ (gt l i).src ∧ (gt l i).src < s1.length ∧ 0 ≤ (gt l i).dst ∧ (gt l i).dst < s1.length := fun h => by have := hl _ (gt_mem h); omega
    refine zT ?_
    repeat' first
    | with_reducible refine awp_seq ?_
    | ((with_reducible refine awp_region ?_); refine zS ?_)
    | ((with_reducible refine Gd_b ?_ ?_) <;> intro hb <;> first | contradiction | refine zH hb ?_)
    | ((with_reducible refine AWP_c ?_); refine zcdF ?_)
    | ((with_reducible refine AWP_c ?_); refine zcdD ?_ ?_ <;> intro hb hb2 <;> first | contradiction | (exfalso; omega) | ((try refine zH hb2 ?_); try clear hb2))
    | ((with_reducible refine AWP_c ?_); refine zcdM ?_ ?_ <;> intro hb <;> first | contradiction | (try refine zH hb ?_))
    | with_reducible refine fin_qn ?_ ?_
    | ((with_reducible refine awp_skip ?_); refine zS ?_)
    | with_reducible refine awp_block ?_
    | ((with_reducible refine awp_exit ?_); refine zS ?_)
    | ((with_reducible refine awp_goto ?_); try refine zS ?_)
    · have hh : hot s1 (gt l i) = true := by simp only [hot, gb, hb]; simp [*]
      have hf : l.find? (hot s1) = some (gt l i) := by rw [h2, drop_gt (by omega), List.find?_cons_of_pos hh]
      obtain ⟨q1, q2⟩ := spread_some (s := s1) (by rw [e1]; exact hl) hf
      exact ⟨s1.set (gt l i).dst.toNat true, ⟨by simp [e1], by rw [← q1, e2]⟩, zwc 1⟩
    all_goals first
      | rfl
      | (rw [← e2, spread_none (by rw [h2, List.drop_eq_nil_of_le (by omega)]; rfl)]; done)
      | exact ⟨i + 1, ⟨by omega, by rw [h2, drop_gt (by omega), List.find?_cons_of_neg (by simp [hot, gb, *])]⟩, by omega, zwc 1⟩
      | trace_state
  · rintro s1 ⟨e1, e2⟩
    simp only [go_sem, Bool.not_not, List.mem_singleton, forall_eq, ↓reduceIte, if_pos, rowsAt_map, wrap64, wrapu8, List.getElem?_cons_zero, List.getElem?_cons_succ, Int.reduceToNat, Nat.reduceAdd, Nat.reduceBEq, Bool.or_false, Bool.false_or, Bool.true_or, Nat.reduceSub, Nat.reduceMul, Int.reduceAdd, Int.reduceEq, Int.reduceLT, Int.reduceLE, Int.reduceNeg, Nat.reduceLT, Nat.reduceLeDiff, Nat.reduceEqDiff, List.replicate]
    repeat' first
    | with_reducible refine awp_seq ?_
    | ((with_reducible refine awp_region ?_); refine zS ?_)
    | ((with_reducible refine awp_skip ?_); refine zS ?_)
    | with_reducible refine awp_block ?_
    refine awp_loopT (fun i : Nat => i ≤ l.length ∧ l.find? (hot s1) = (l.drop i).find? (hot s1)) (fun i => l.length - i) (fun i => [(8, aI i)]) (fun _ => [RwO s1]) 0 ⟨by omega, rfl⟩ zwl ?_
    rintro i ⟨h1, h2⟩
    have hR : i < l.length → 0 ≤ (gt l i).src ∧ (gt l i).src < s1.length ∧ 0 ≤ (gt l i).dst ∧ (gt l i).dst < s1.length := fun h => by have := hl _ (gt_mem h); omega
    refine zT ?_
    repeat' first
    | with_reducible refine awp_seq ?_
    | ((with_reducible refine awp_region ?_); refine zS ?_)
    | ((with_reducible refine Gd_b ?_ ?_) <;> intro hb <;> first | contradiction | refine zH hb ?_)
    | ((with_reducible refine AWP_c ?_); refine zcdF ?_)
    | ((with_reducible refine AWP_c ?_); refine zcdD ?_ ?_ <;> intro hb hb2 <;> first | contradiction | (exfalso; omega) | ((try refine zH hb2 ?_); try clear hb2))
    | ((with_reducible refine AWP_c ?_); refine zcdM ?_ ?_ <;> intro hb <;> first | contradiction | (try refine zH hb ?_))
    | with_reducible refine fin_qn ?_ ?_
    | ((with_reducible refine awp_skip ?_); refine zS ?_)
    | with_reducible refine awp_block ?_
    | ((with_reducible refine awp_exit ?_); refine zS ?_)
    | ((with_reducible refine awp_goto ?_); try refine zS ?_)
    · have hh : hot s1 (gt l i) = true := by simp only [hot, gb, hb]; simp [*]
      have hf : l.find? (hot s1) = some (gt l i) := by rw [h2, drop_gt (by omega), List.find?_cons_of_pos hh]
      obtain ⟨q1, q2⟩ := spread_some (s := s1) (by rw [e1]; exact hl) hf
      exact ⟨s1.set (gt l i).dst.toNat true, ⟨by simp [e1], by rw [← q1, e2]⟩, q2, zwc 1⟩
    all_goals first
      | rfl
      | (rw [← e2, spread_none (by rw [h2, List.drop_eq_nil_of_le (by omega)]; rfl)]; done)
      | exact ⟨i + 1, ⟨by omega, by rw [h2, drop_gt (by omega), List.find?_cons_of_neg (by simp [hot, gb, *])]⟩, by omega, zwc 1⟩
      | trace_state
def markF (s : List Bool) : List Int := ((List.range s.length).filter fun i => gt s i).map fun (i : Nat) => (i : Int)
def iRow (n : Int) : List D := [dI n]
attribute [go_sem] iRow
def RwG (i : List Int) : Option Blk := some (.rows 1 (i.map iRow))
def OwnK (i n : Nat) : A := .c (.own i 0 n n)
attribute [go_sem] RwG OwnK
def markL : List Bool → Nat → List Int
  | [], _ => []
  | b :: l, i => if b = true then (i : Int) :: markL l (i + 1) else markL l (i + 1)
theorem markL_len : ∀ (s : List Bool) (i : Nat), (markL s i).length ≤ s.length
  | [], _ => by simp [markL]
  | b :: l, i => by have := markL_len l (i + 1); rw [markL]; split <;> simp <;> omega
def Own0 (n : Nat) : A := .c (.own 0 0 n n)
def RwZ (s : List Int) : Option Blk := some (.rows 1 (s.map iRow))
attribute [go_sem] Own0 RwZ
theorem mark_ok (s : List Bool) (hs : s.length ≤ 100000) : AFn env 91 [aF (s.map bRow)] [] (aF ((markL s 0).map iRow)) [] := by
  refine afn_body Tryz.func91 rfl (by decide) ?_
  simp only [Tryz.ntmps91, Tryz.results91, List.length_cons, List.length_nil, List.cons_append, List.nil_append, Nat.reduceAdd, Nat.reduceSub, List.replicate]
  iterate 2 (refine awp_seq ?_; refine awp_region ?_; refine zS ?_)
  refine awp_wk (wk_virt none (i := 3) (s := 1) (by decide) rfl) ?_
  refine zT ?_
  repeat' first
  | with_reducible refine awp_seq ?_
  | ((with_reducible refine awp_region ?_); refine zS ?_)
  | with_reducible refine awp_block ?_
  refine awp_loopT (fun z : Nat × List Int => z.1 ≤ s.length ∧ z.2 ++ markL (s.drop z.1) z.1 = markL s 0 ∧ z.2.length ≤ z.1) (fun z => s.length - z.1) (fun z => [(3, Own0 z.2.length), (8, aI z.1)]) (fun z => [RwZ z.2]) (0, []) ⟨by simp, by simp, by simp⟩ zwl ?_
  rintro ⟨i, o⟩ ⟨h1, h2, h3⟩
  simp only at h1 h2 h3
  refine zT ?_
  repeat' first
  | with_reducible refine awp_seq ?_
  | ((with_reducible refine awp_region ?_); refine zS ?_)
  | ((with_reducible refine AWP_c ?_); refine zcdD ?_ ?_ <;> intro hb hb2 <;> first | contradiction | (exfalso; omega) | ((try refine zH hb2 ?_); try clear hb2))
  | ((with_reducible refine AWP_c ?_); refine zcdB ?_ ?_ <;> intro hb <;> first | contradiction | (try refine zH hb ?_))
  | ((with_reducible refine awp_ret ?_); refine fin_r ?_)
  | ((with_reducible refine awp_skip ?_); refine zS ?_)
  | with_reducible refine awp_block ?_
  | ((with_reducible refine awp_exit ?_); refine zS ?_)
  · exact ⟨(i + 1, o ++ [(i : Int)]), ⟨by simp only; omega, by rw [← h2, drop_gt (l := s) (i := i) (by omega), markL, if_pos ‹_›]; simp, by simp; omega⟩, by simp only; omega, wk_cl 1 (by decide) (by simp) (by simp only [go_sem, Bool.not_not, List.mem_singleton, forall_eq, ↓reduceIte, if_pos, rowsAt_map, wrap64, wrapu8, List.getElem?_cons_zero, List.getElem?_cons_succ, Int.reduceToNat, Nat.reduceAdd, Nat.reduceBEq, Bool.or_false, Bool.false_or, Bool.true_or, Nat.reduceSub, Nat.reduceMul, Int.reduceAdd, Int.reduceEq, Int.reduceLT, Int.reduceLE, Int.reduceNeg, Nat.reduceLT, Nat.reduceLeDiff, Nat.reduceEqDiff]; try simp) (by simp only [go_sem, Bool.not_not, List.mem_singleton, forall_eq, ↓reduceIte, if_pos, rowsAt_map, wrap64, wrapu8, List.getElem?_cons_zero, List.getElem?_cons_succ, Int.reduceToNat, Nat.reduceAdd, Nat.reduceBEq, Bool.or_false, Bool.false_or, Bool.true_or, Nat.reduceSub, Nat.reduceMul, Int.reduceAdd, Int.reduceEq, Int.reduceLT, Int.reduceLE, Int.reduceNeg, Nat.reduceLT, Nat.reduceLeDiff, Nat.reduceEqDiff, List.map_append]; try simp [go_sem])⟩
  · exact ⟨(i + 1, o), ⟨by simp only; omega, by rw [← h2, drop_gt (l := s) (i := i) (by omega), markL, if_neg (by simp [*])], by simp only; omega⟩, by simp only; omega, zwc 1⟩
  rw [List.drop_eq_nil_of_le (by omega), markL, List.append_nil] at h2
  rw [h2]
end Go.Eng
open Go Go.Proofs
namespace Go.Eng
set_option linter.unusedSimpArgs false
set_option linter.unusedVariables false
set_option maxRecDepth 10000
set_option maxHeartbeats 8000000
def first1 (i : Int) : List Lk → List Bool → List Bool
  | [], s => s
  | e :: l, s => first1 i l (if e.src = i then s.set e.dst.toNat true else s)
theorem first1_len (i : Int) : ∀ (l : List Lk) (s : List Bool), (first1 i l s).length = s.length
  | [], s => rfl
  | e :: l, s => by rw [first1, first1_len i l]; split <;> simp
theorem spreadN_len : ∀ (n : Nat) (s : List Bool) (l : List Lk), (spreadN n s l).length = s.length
  | 0, s, l => rfl
  | n + 1, s, l => by
    rw [spreadN]
    split
    · rfl
    · rw [spreadN_len n]; simp
theorem spreadF_len (s : List Bool) (l : List Lk) : (spreadF s l).length = s.length := spreadN_len _ _ _
def aheadF (n : Nat) (l : List Lk) (i : Nat) : List Bool := spreadF (first1 i l (List.replicate n false)) l
def seenF (n : Nat) (l : List Lk) : List Bool := (List.range n).map fun i => gt (aheadF n l i) i
def roundF (n : Int) (l : List Lk) : List Int × Int := if rkC n l = 0 then (markL (seenF n.toNat l) 0, 0) else ([], rkC n l)
theorem rkC_in {n : Int} {l : List Lk} (h : rkC n l = 0) : (0 ≤ n ∧ n ≤ 64 ∧ l.length ≤ 256) ∧ inL n.toNat l := by
  unfold rkC at h
  split at h
  · cases h
  · split at h
    · cases h
    · split at h
      · rename_i h1 h2 h3
        refine ⟨by omega, fun e he => ?_⟩
        have := List.all_eq_true.1 h3 e he
        simp only [inR, Bool.and_eq_true, decide_eq_true_eq] at this
        omega
      · cases h
theorem rep_bRow (n : Nat) (b : Bool) : List.replicate n [D.sc (.bool b)] = (List.replicate n b).map bRow := by rw [List.map_replicate]; rfl
attribute [go_sem] rep_bRow List.length_replicate
theorem ext_gt {s t : List Bool} (h : s.length = t.length) (hg : ∀ j, j < s.length → gt s j = gt t j) : s = t := by
  apply List.ext_getElem h
  intro j h1 h2
  have := hg j h1
  simpa [gt, List.getD, h1, h2] using this
theorem gt_set (s : List Bool) (i j : Nat) (b : Bool) (h : i < s.length) : gt (s.set i b) j = if i = j then b else gt s j := by
  unfold gt
  rw [List.getD_eq_getElem?_getD, List.getElem?_set, List.getD_eq_getElem?_getD]
  split
  · rename_i e; subst e; simp [h]
  · rfl
theorem spread_okn (n : Nat) (s : List Bool) (l : List Lk) (hn : s.length = n) (hs : n ≤ 100000) (hl : inL n l) (hll : l.length ≤ 100000) : AFn env 90 [Own n, aF (l.map Lk.row)] [RwO s] (.tup []) [RwO (spreadF s l)] := by
  subst hn; exact spread_ok s l hs hl hll
theorem first1_nil (i : Int) (s : List Bool) : first1 i [] s = s := rfl
theorem first1_t {i : Int} {l : List Lk} {j : Nat} {s : List Bool} (h : j < l.length) (he : (gt l j).src = i) : first1 i (l.drop j) s = first1 i (l.drop (j + 1)) (s.set (gt l j).dst.toNat true) := by rw [drop_gt (l := l) h, first1, if_pos he]
theorem first1_f {i : Int} {l : List Lk} {j : Nat} {s : List Bool} (h : j < l.length) (he : ¬ (gt l j).src = i) : first1 i (l.drop j) s = first1 i (l.drop (j + 1)) s := by rw [drop_gt (l := l) h, first1, if_neg he]
theorem round_ok (n : Nat) (l : List Lk) : AFn env 65 [aI n, aF (l.map Lk.row)] [] (.tup [aF ((roundF n l).1.map iRow), aI (roundF n l).2]) [] := by
  have hf : rkC n l = 0 → n ≤ 64 ∧ l.length ≤ 256 := fun h => by have := rkC_in h; omega
  refine afn_body Tryz.func65 rfl (by decide) ?_
  simp only [Tryz.ntmps65, Tryz.results65, List.length_cons, List.length_nil, List.cons_append, List.nil_append, Nat.reduceAdd, Nat.reduceSub, List.replicate]
  repeat' first
  | ((with_reducible refine awp_seqQ ?_); intro _ _)
  | ((with_reducible refine awp_region ?_); refine zS ?_)
  | ((with_reducible refine AWP_c ?_); refine zcdN ?_ ?_ <;> intro hb hb2 <;> first | contradiction | (exfalso; omega) | ((try refine zH hb2 ?_); try clear hb2))
  | ((with_reducible refine awp_skip ?_); try refine zS ?_)
  | with_reducible refine awp_block ?_
  | ((with_reducible refine CallK_id ?_); refine zcF ?_; refine ⟨_, by first | exact rkC_ok n l | fail, fun _ => rfl, fun _ => rfl, rfl, ?_⟩; try refine zS ?_)
  | ((with_reducible refine awp_ret ?_); refine q_step (by assumption) ?_)
  | with_reducible refine fin_r ?_
  | ((with_reducible refine q_step (by assumption) ?_); try refine zS ?_)
  · rw [roundF, if_neg ‹_›]; rfl
  have hr0 : rkC n l = 0 := ‹_›
  have hin : inL n l := by have := (rkC_in hr0).2; rwa [Int.toNat_natCast] at this
  have hsl : (seenF n l).length = n := by simp [seenF]
  refine awp_loopT (fun z : Nat × List Bool => z.1 ≤ n ∧ z.2.length = n ∧ ∀ j, j < z.1 → gt z.2 j = gt (seenF n l) j) (fun z => n - z.1) (fun z => [(21, aI z.1)]) (fun z => [RwO z.2]) (0, List.replicate n false) ⟨by simp, by simp, by simp⟩ zwl ?_
  rintro ⟨i, sn⟩ ⟨h1, h2, h3⟩
  simp only at h1 h2 h3
  refine zT ?_
  repeat' first
  | ((with_reducible refine awp_seqQ ?_); intro _ _)
  | ((with_reducible refine awp_region ?_); refine zS ?_)
  | ((with_reducible refine AWP_c ?_); refine zcdD ?_ ?_ <;> intro hb hb2 <;> first | contradiction | (exfalso; omega) | ((try refine zH hb2 ?_); try clear hb2))
  | ((with_reducible refine awp_skip ?_); try refine zS ?_)
  | with_reducible refine awp_block ?_
  | ((with_reducible refine awp_exit ?_); try refine zS ?_)
  | ((with_reducible refine CallK_id ?_); refine zcF ?_; refine ⟨_, by first | exact mark_ok sn (by omega) | fail, fun _ => rfl, fun _ => rfl, rfl, ?_⟩; try refine zS ?_)
  | ((with_reducible refine awp_ret ?_); refine q_step (by assumption) ?_)
  | with_reducible refine fin_r ?_
  | ((with_reducible refine q_step (by assumption) ?_); try refine zS ?_)
  rotate_left
  · have hi : i = n := by omega
    have : sn = seenF n l := ext_gt (by rw [hsl]; exact h2) (fun j hj => h3 j (by omega))
    rw [roundF, if_pos hr0, this, Int.toNat_natCast]
  refine awp_loopT (fun z : Nat × List Bool => z.1 ≤ l.length ∧ z.2.length = n ∧ first1 i l (List.replicate n false) = first1 i (l.drop z.1) z.2) (fun z => l.length - z.1) (fun z => [(28, aI z.1)]) (fun z => [RwO sn, RwO z.2]) (0, List.replicate n false) ⟨by simp, by simp, rfl⟩ zwl ?_
  rintro ⟨j, s⟩ ⟨g1, g2, g3⟩
  simp only at g1 g2 g3
  have hR : j < l.length → 0 ≤ (gt l j).src ∧ (gt l j).src < n ∧ 0 ≤ (gt l j).dst ∧ (gt l j).dst < n := fun h => hin _ (gt_mem h)
  have hS := spreadF_len s l
  refine zT ?_
  repeat' first
  | ((with_reducible refine awp_seqQ ?_); intro _ _)
  | ((with_reducible refine awp_region ?_); refine zS ?_)
  | ((with_reducible refine AWP_c ?_); refine zcdD ?_ ?_ <;> intro hb hb2 <;> first | contradiction | (exfalso; omega) | ((try refine zH hb2 ?_); try clear hb2))
  | ((with_reducible refine awp_skip ?_); try refine zS ?_)
  | with_reducible refine awp_block ?_
  | ((with_reducible refine awp_exit ?_); try refine zS ?_)
  | ((with_reducible refine CallK_id ?_); refine zcT [1] ?_; refine ⟨_, _, by first | exact spread_okn n s l g2 (by omega) hin (by omega) | fail, ?_⟩; try refine zS ?_)
  | ((with_reducible refine q_step (by assumption) ?_); try refine zS ?_)
  · exact ⟨(j + 1, s.set (gt l j).dst.toNat true), ⟨by simp only; omega, by simpa using g2, by rw [g3, first1_t (by omega) ‹_›]⟩, by simp only; omega, zwc 2⟩
  · exact ⟨(j + 1, s), ⟨by simp only; omega, g2, by rw [g3, first1_f (by omega) ‹_›]⟩, by simp only; omega, zwc 2⟩
  have hs : first1 i l (List.replicate n false) = s := by rw [g3, List.drop_eq_nil_of_le (by omega), first1_nil]
  have ha : aheadF n l i = spreadF s l := by rw [aheadF, hs]
  refine ⟨(i + 1, sn.set i (gt (spreadF s l) i)), ⟨by simp only; omega, by simpa using h2, fun k hk => ?_⟩, by simp only; omega, zwc 1⟩
  simp only at hk ⊢
  rw [gt_set _ _ _ _ (by omega)]
  by_cases e : i = k
  · subst e
    rw [if_pos rfl, seenF, ← ha]
    simp [gt, List.getD, show i < n by omega]
  · rw [if_neg e]; exact h3 k (by omega)
end Go.Eng
open Go Go.Proofs
namespace Go.Eng
set_option linter.unusedSimpArgs false
set_option linter.unusedVariables false
set_option maxRecDepth 10000
set_option maxHeartbeats 8000000
def freeE (t : List Bool) (i : Nat) (e : Lk) : Bool := !decide (e.dst = i) || gb t e.src
def freeF (t : List Bool) (l : List Lk) (i : Nat) : Bool := !gt t i && l.all (freeE t i)
def orderN (n : Nat) (l : List Lk) : Nat → List Int → List Bool → List Int
  | 0, o, _ => o
  | k + 1, o, t => match (List.range n).find? (freeF t l) with | none => o | some i => orderN n l k (o ++ [(i : Int)]) (t.set i true)
def orderF (n : Nat) (l : List Lk) : List Int := orderN n l (cf (List.replicate n false)) [] (List.replicate n false)
def ordF (n : Nat) (l : List Lk) : List Int × Int := if (roundF n l).2 ≠ 0 then ([], (roundF n l).2) else if (roundF n l).1.length > 0 then ([], 7) else (orderF n l, 0)
theorem cf_le : ∀ t : List Bool, cf t ≤ t.length
  | [] => by simp [cf]
  | b :: l => by have := cf_le l; simp only [cf, List.length_cons]; split <;> omega
theorem cf_rep : ∀ n, cf (List.replicate n false) = n
  | 0 => rfl
  | n + 1 => by rw [List.replicate_succ, cf, cf_rep n]; simp; omega
def Acy (n : Nat) (l : List Lk) : Prop := ∀ t : List Bool, t.length = n → 0 < cf t → ∃ i, i < n ∧ freeF t l i = true
theorem find_least {n : Nat} {p : Nat → Bool} {i : Nat} (hi : i < n) (hp : p i = true) (hn : ∀ j, j < i → p j = false) : (List.range n).find? p = some i := by
  rw [List.find?_range_eq_some]
  exact ⟨hp, by simpa using hi, fun j hj => by simp [hn j hj]⟩
theorem free_no {t : List Bool} {l : List Lk} {i j : Nat} (h : j < l.length) (he : freeE t i (gt l j) = false) : freeF t l i = false := by
  unfold freeF
  rw [Bool.and_eq_false_iff]
  right
  rw [List.all_eq_false]
  exact ⟨_, gt_mem h, by simp [he]⟩
theorem free_yes {t : List Bool} {l : List Lk} {i : Nat} (h : gt t i = false) (he : ∀ k, k < l.length → freeE t i (gt l k) = true) : freeF t l i = true := by
  unfold freeF
  rw [h, List.all_eq_true.2 (fun e hm => by
    obtain ⟨k, hk, rfl⟩ := List.getElem_of_mem hm
    have := he k hk
    simpa [gt, List.getD, hk] using this)]
  rfl
theorem upto {p : Nat → Prop} {i : Nat} (h : ∀ j, j < i → p j) (hi : p i) : ∀ j, j < i + 1 → p j := fun j hj => by
  rcases Nat.lt_or_ge j i with h' | h'
  · exact h j h'
  · obtain rfl : j = i := by omega
    exact hi
theorem order_ok (n : Nat) (l : List Lk) (hac : (roundF n l).2 = 0 → (roundF n l).1.length = 0 → Acy n l) : AFn env 50 [aI n, aF (l.map Lk.row)] [] (.tup [aF ((ordF n l).1.map iRow), aI (ordF n l).2]) [] := by
  have hf : (roundF n l).2 = 0 → n ≤ 64 ∧ l.length ≤ 256 := fun h => by
    unfold roundF at h
    split at h
    · rename_i h2; have := rkC_in h2; omega
    · exact absurd h ‹_›
  have hin : (roundF n l).2 = 0 → inL n l := fun h => by
    unfold roundF at h
    split at h
    · rename_i h2; have := (rkC_in h2).2; rwa [Int.toNat_natCast] at this
    · exact absurd h ‹_›
  refine afn_body Tryz.func50 rfl (by decide) ?_
  simp only [Tryz.ntmps50, Tryz.results50, List.length_cons, List.length_nil, List.cons_append, List.nil_append, Nat.reduceAdd, Nat.reduceSub, List.replicate]
  repeat' first
  | ((with_reducible refine awp_seqQ ?_); intro _ _)
  | ((with_reducible refine awp_region ?_); refine zS ?_)
  | ((with_reducible refine AWP_c ?_); refine zcdN ?_ ?_ <;> intro hb hb2 <;> first | contradiction | (exfalso; omega) | ((try refine zH hb2 ?_); try clear hb2))
  | ((with_reducible refine AWP_c ?_); refine zcdD ?_ ?_ <;> intro hb hb2 <;> first | contradiction | (exfalso; omega) | ((try refine zH hb2 ?_); try clear hb2))
  | ((with_reducible refine awp_skip ?_); try refine zS ?_)
  | with_reducible refine awp_block ?_
  | ((with_reducible refine CallK_id ?_); refine zcF ?_; refine ⟨_, by first | exact round_ok n l | fail, fun _ => rfl, fun _ => rfl, rfl, ?_⟩; try refine zS ?_)
  | ((with_reducible refine awp_label ?_); try refine zS ?_)
  | ((with_reducible refine awp_scope0 ?_); try refine zS ?_)
  | ((with_reducible refine awp_ret ?_); refine q_step (by assumption) ?_)
  | with_reducible refine fin_r ?_
  | ((with_reducible refine q_step (by assumption) ?_); try refine zS ?_)
  · rw [ordF, if_pos ‹_›]; rfl
  · rw [ordF, if_neg (by simp [*]), if_pos (by omega)]; rfl
  have hq : (roundF n l).2 = 0 := ‹_›
  have hq2 : (roundF n l).1.length = 0 := by omega
  have ha := hac hq hq2
  have hl := hin hq
  have hord : ordF n l = (orderF n l, 0) := by rw [ordF, if_neg (by simp [hq]), if_neg (by omega)]
  refine awp_wk (wk_virt none (i := 9) (s := 1) (by decide) rfl) ?_
  refine zT ?_
  refine awp_loopT (fun z : List Int × List Bool => z.2.length = n ∧ z.1.length + cf z.2 = n ∧ orderN n l (cf z.2) z.1 z.2 = orderF n l) (fun z => cf z.2) (fun z => [(9, Own1 z.1.length), (13, .any), (16, .any)]) (fun z => [RwO z.2, RwZ z.1]) ([], List.replicate n false) ⟨by simp, by simp [cf_rep], by simp [orderF]⟩ zwl ?_
  rintro ⟨o, t⟩ ⟨h1, h2, h3⟩
  simp only at h1 h2 h3
  refine zT ?_
  repeat' first
  | ((with_reducible refine awp_seqQ ?_); intro _ _)
  | ((with_reducible refine awp_region ?_); refine zS ?_)
  | ((with_reducible refine AWP_c ?_); refine zcdD ?_ ?_ <;> intro hb hb2 <;> first | contradiction | (exfalso; omega) | ((try refine zH hb2 ?_); try clear hb2))
  | ((with_reducible refine awp_skip ?_); try refine zS ?_)
  | with_reducible refine awp_block ?_
  | ((with_reducible refine awp_exit ?_); try refine zS ?_)
  | ((with_reducible refine awp_label ?_); try refine zS ?_)
  | ((with_reducible refine awp_scope0 ?_); try refine zS ?_)
  | ((with_reducible refine awp_ret ?_); refine q_step (by assumption) ?_)
  | ((with_reducible refine q_step (by assumption) ?_); try refine zS ?_)
  rotate_left
  · have hz : cf t = 0 := by omega
    rw [hz, orderN] at h3
    refine fin_r (r0 := .tup [aF (o.map iRow), aI 0]) (H1 := [RwO t, none]) ?_ (h2 := by simp only [go_sem, Bool.not_not, List.mem_singleton, forall_eq, ↓reduceIte, if_pos, rowsAt_map, wrap64, wrapu8, List.getElem?_cons_zero, List.getElem?_cons_succ, Int.reduceToNat, Nat.reduceAdd, Nat.reduceBEq, Bool.or_false, Bool.false_or, Bool.true_or, Nat.reduceSub, Nat.reduceMul, Int.reduceAdd, Int.reduceEq, Int.reduceLT, Int.reduceLE, Int.reduceNeg, Nat.reduceLT, Nat.reduceLeDiff, Nat.reduceEqDiff, frA, frAs, subR, Nat.le_refl, and_self]; try rfl)
    rw [hord, h3]; rfl
  obtain ⟨x, hx, hfx⟩ := ha t h1 (by omega)
  refine awp_loopT (fun i : Nat => i ≤ n ∧ ∀ j, j < i → freeF t l j = false) (fun i => n - i) (fun i => [(9, Own1 o.length), (34, aI i)]) (fun _ => [RwO t, RwZ o]) 0 ⟨by omega, fun j h => by omega⟩ zwl ?_
  rintro i ⟨g1, g2⟩
  refine zT ?_
  repeat' first
  | ((with_reducible refine awp_seqQ ?_); intro _ _)
  | ((with_reducible refine awp_region ?_); refine zS ?_)
  | ((with_reducible refine AWP_c ?_); refine zcdD ?_ ?_ <;> intro hb hb2 <;> first | contradiction | (exfalso; omega) | ((try refine zH hb2 ?_); try clear hb2))
  | ((with_reducible refine AWP_c ?_); refine zcdB ?_ ?_ <;> intro hb <;> first | contradiction | (try refine zH hb ?_))
  | ((with_reducible refine awp_skip ?_); try refine zS ?_)
  | with_reducible refine awp_block ?_
  | ((with_reducible refine awp_exit ?_); try refine zS ?_)
  | ((with_reducible refine q_step (by assumption) ?_); try refine zS ?_)
  · exact ⟨i + 1, ⟨by omega, upto g2 (by simp [freeF, hb])⟩, by omega, zwc 2⟩
  rotate_left
  · exfalso
    have := g2 x (by omega)
    rw [hfx] at this
    cases this
  have hti : gt t i = false := ‹_›
  refine awp_loopT (fun j : Nat => j ≤ l.length ∧ ∀ k, k < j → freeE t i (gt l k) = true) (fun j => l.length - j) (fun j => [(43, aI j)]) (fun _ => [RwO t, RwZ o]) 0 ⟨by omega, fun j h => by omega⟩ zwl ?_
  rintro j ⟨k1, k2⟩
  have hR : j < l.length → 0 ≤ (gt l j).src ∧ (gt l j).src < n ∧ 0 ≤ (gt l j).dst ∧ (gt l j).dst < n := fun h => hl _ (gt_mem h)
  refine zT ?_
  repeat' first
  | ((with_reducible refine awp_seqQ ?_); intro _ _)
  | ((with_reducible refine awp_region ?_); refine zS ?_)
  | ((with_reducible refine Gd_d ?_ ?_) <;> intro hb hb2 <;> first | contradiction | (exfalso; omega) | (refine zH hb2 ?_; try clear hb2))
  | ((with_reducible refine AWP_c ?_); refine zcdF ?_)
  | ((with_reducible refine AWP_c ?_); refine zcdD ?_ ?_ <;> intro hb hb2 <;> first | contradiction | (exfalso; omega) | ((try refine zH hb2 ?_); try clear hb2))
  | ((with_reducible refine AWP_c ?_); refine zcdM ?_ ?_ <;> intro hb <;> first | contradiction | (try refine zH hb ?_))
  | ((with_reducible refine awp_skip ?_); try refine zS ?_)
  | with_reducible refine awp_block ?_
  | ((with_reducible refine awp_exit ?_); try refine zS ?_)
  | ((with_reducible refine q_step (by assumption) ?_); try refine zS ?_)
  · exact ⟨i + 1, ⟨by omega, upto g2 (free_no (j := j) (by omega) (by simp [freeE, gb, *]))⟩, by omega, zwc 2⟩
  · exact ⟨j + 1, ⟨by omega, upto k2 (by simp [freeE, gb, *])⟩, by omega, zwc 2⟩
  · exact ⟨j + 1, ⟨by omega, upto k2 (by simp [freeE, gb, *])⟩, by omega, zwc 2⟩
  have hfi : freeF t l i = true := free_yes hti (fun k hk => k2 k (by omega))
  have hfd : (List.range n).find? (freeF t l) = some i := find_least (by omega) hfi g2
  have hc := cf_set (s := t) (j := i) (by omega) hti
  rw [← hc, orderN, hfd] at h3
  exact ⟨(o ++ [(i : Int)], t.set i true), ⟨by simpa using h1, by simp only [List.length_append, List.length_cons, List.length_nil]; omega, h3⟩, by simp only; omega, wk_cl 2 (by decide) (by simp) (by simp only [go_sem, Bool.not_not, List.mem_singleton, forall_eq, ↓reduceIte, if_pos, rowsAt_map, wrap64, wrapu8, List.getElem?_cons_zero, List.getElem?_cons_succ, Int.reduceToNat, Nat.reduceAdd, Nat.reduceBEq, Bool.or_false, Bool.false_or, Bool.true_or, Nat.reduceSub, Nat.reduceMul, Int.reduceAdd, Int.reduceEq, Int.reduceLT, Int.reduceLE, Int.reduceNeg, Nat.reduceLT, Nat.reduceLeDiff, Nat.reduceEqDiff]; try simp) (by simp only [go_sem, Bool.not_not, List.mem_singleton, forall_eq, ↓reduceIte, if_pos, rowsAt_map, wrap64, wrapu8, List.getElem?_cons_zero, List.getElem?_cons_succ, Int.reduceToNat, Nat.reduceAdd, Nat.reduceBEq, Bool.or_false, Bool.false_or, Bool.true_or, Nat.reduceSub, Nat.reduceMul, Int.reduceAdd, Int.reduceEq, Int.reduceLT, Int.reduceLE, Int.reduceNeg, Nat.reduceLT, Nat.reduceLeDiff, Nat.reduceEqDiff, List.map_append]; try simp [go_sem])⟩
end Go.Eng
open Go Go.Proofs
namespace Go.Eng
set_option linter.unusedSimpArgs false
set_option linter.unusedVariables false
theorem gt_lt {s : List Bool} {k : Nat} (h : gt s k = true) : k < s.length := by
  rcases Nat.lt_or_ge k s.length with h' | h'
  · exact h'
  · rw [show gt s k = false by simp [gt, List.getD, h']] at h; cases h
theorem gt_mono (s : List Bool) (j k : Nat) (h : gt s k = true) : gt (s.set j true) k = true := by
  by_cases hj : j < s.length
  · rw [gt_set _ _ _ _ hj]; split <;> simp [h]
  · rw [List.set_eq_of_length_le (by omega)]; exact h
theorem spreadN_mono : ∀ (n : Nat) (s : List Bool) (l : List Lk) (k : Nat), gt s k = true → gt (spreadN n s l) k = true
  | 0, s, l, k, h => h
  | n + 1, s, l, k, h => by
    rw [spreadN]
    split
    · exact h
    · exact spreadN_mono n _ l k (gt_mono _ _ _ h)
theorem spreadN_closed {l : List Lk} : ∀ (n : Nat) (s : List Bool), inL s.length l → cf s ≤ n → l.find? (hot (spreadN n s l)) = none
  | 0, s, hl, hc => by
    rw [spreadN]
    cases h : l.find? (hot s) with
    | none => rfl
    | some e => have := (spread_some hl h).2; omega
  | n + 1, s, hl, hc => by
    rw [spreadN]
    cases h : l.find? (hot s) with
    | none => simp [h]
    | some e =>
      have h2 := (spread_some hl h).2
      exact spreadN_closed n _ (by simpa using hl) (by omega)
theorem spread_closed {l : List Lk} {s : List Bool} (hl : inL s.length l) {e : Lk} (he : e ∈ l) (h : gb (spreadF s l) e.src = true) : gb (spreadF s l) e.dst = true := by
  have := spreadN_closed (cf s) s hl (Nat.le_refl _)
  rw [List.find?_eq_none] at this
  have := this e he
  unfold hot at this
  rw [show gb (spreadN (cf s) s l) e.src = true from h] at this
  simpa [spreadF] using this
theorem first1_mono (i : Int) : ∀ (l : List Lk) (s : List Bool) (k : Nat), gt s k = true → gt (first1 i l s) k = true
  | [], s, k, h => h
  | e :: l, s, k, h => by
    rw [first1]
    split
    · exact first1_mono i l _ k (gt_mono _ _ _ h)
    · exact first1_mono i l _ k h
theorem first1_seed (i : Int) : ∀ (l : List Lk) (s : List Bool), inL s.length l → ∀ e ∈ l, e.src = i → gb (first1 i l s) e.dst = true
  | [], s, _, e, h, _ => by simp at h
  | x :: l, s, hl, e, h, he => by
    rw [first1]
    have hx := hl x (by simp)
    rcases List.mem_cons.1 h with rfl | h
    · rw [if_pos he]
      exact first1_mono i l _ _ (by rw [gt_set _ _ _ _ (by omega), if_pos rfl])
    · refine first1_seed i l _ (fun y hy => ?_) e h he
      have := hl y (by simp [hy])
      split <;> simpa using this
def run (l : List Lk) (y x : Int) : Prop := ∀ u : Int → Prop, (∀ e ∈ l, u e.src → u e.dst) → (∀ e ∈ l, e.src = y → u e.dst) → u x
theorem run_trans {l : List Lk} {a b c : Int} (h : run l a b) (g : run l b c) : run l a c := fun u hu hs => g u hu fun e he hb => hu e he (by rw [hb]; exact h u hu hs)
theorem run_edge {l : List Lk} {e : Lk} (h : e ∈ l) : run l e.src e.dst := fun u hu hs => hs e h rfl
theorem run_ahead {n : Nat} {l : List Lk} (hl : inL n l) {i : Nat} {x : Int} (h : run l i x) : gb (aheadF n l i) x = true := by
  have hlen : (first1 i l (List.replicate n false)).length = n := by rw [first1_len]; simp
  refine h (fun k => gb (aheadF n l i) k = true) (fun e he hs => spread_closed (by rw [hlen]; exact hl) he hs) (fun e he hs => ?_)
  exact spreadN_mono _ _ _ _ (first1_seed _ _ _ (by simpa using hl) e he hs)
theorem markL_nil : ∀ (s : List Bool) (i : Nat), (markL s i).length = 0 → ∀ k, gt s k = false
  | [], i, _, k => by simp [gt]
  | b :: l, i, h, k => by
    rw [markL] at h
    split at h
    · simp at h
    · rename_i hb
      cases k with
      | zero => simpa [gt] using hb
      | succ k => have := markL_nil l (i + 1) h k; simpa [gt, List.getD] using this
theorem no_round {n : Nat} {l : List Lk} (h0 : (roundF n l).2 = 0) (h : (roundF n l).1.length = 0) : inL n l ∧ ∀ i : Nat, i < n → ¬ run l i i := by
  unfold roundF at h0 h
  split at h0
  · rename_i hr
    rw [if_pos hr, Int.toNat_natCast] at h
    have hl := (rkC_in hr).2
    rw [Int.toNat_natCast] at hl
    refine ⟨hl, fun i hi hrun => ?_⟩
    have h1 := run_ahead hl hrun
    have h2 := markL_nil _ _ h i
    rw [show gt (seenF n l) i = gt (aheadF n l i) i by simp [seenF, gt, List.getD, hi]] at h2
    rw [show gb (aheadF n l i) i = gt (aheadF n l i) i by simp [gb]] at h1
    rw [h1] at h2; cases h2
  · exact absurd h0 ‹_›
theorem leastR {α : Type} (R : α → α → Prop) (tr : ∀ a b c, R a b → R b c → R a c) : ∀ L : List α, (∀ a ∈ L, ¬ R a a) → L ≠ [] → ∃ m ∈ L, ∀ y ∈ L, ¬ R y m
  | [], _, h => absurd rfl h
  | [a], hr, _ => ⟨a, by simp, fun y hy => by simp at hy; subst hy; exact hr _ (by simp)⟩
  | a :: b :: L, hr, _ => by
    obtain ⟨m, hm, hy⟩ := leastR R tr (b :: L) (fun x hx => hr x (by simp [List.mem_cons.1 hx])) (by simp)
    by_cases h : R a m
    · refine ⟨a, by simp, fun y hy' => ?_⟩
      rcases List.mem_cons.1 hy' with rfl | hy'
      · exact hr _ (by simp)
      · exact fun hya => hy y hy' (tr _ _ _ hya h)
    · refine ⟨m, by simp [List.mem_cons.1 hm], fun y hy' => ?_⟩
      rcases List.mem_cons.1 hy' with rfl | hy'
      · exact h
      · exact hy y hy'
theorem cf_pos : ∀ {t : List Bool}, 0 < cf t → ∃ i, i < t.length ∧ gt t i = false
  | [], h => by simp [cf] at h
  | b :: l, h => by
    cases b with
    | false => exact ⟨0, by simp, rfl⟩
    | true =>
      obtain ⟨i, hi, hg⟩ := cf_pos (t := l) (by simpa [cf] using h)
      exact ⟨i + 1, by simpa using hi, by simpa [gt, List.getD] using hg⟩
theorem acyclic {n : Nat} {l : List Lk} (h0 : (roundF n l).2 = 0) (h : (roundF n l).1.length = 0) : Acy n l := by
  obtain ⟨hl, hr⟩ := no_round h0 h
  intro t ht hc
  obtain ⟨i0, hi0, hg0⟩ := cf_pos hc
  let U := (List.range n).filter fun i => !gt t i
  have hU : ∀ i, i ∈ U ↔ i < n ∧ gt t i = false := fun i => by simp [U]
  obtain ⟨m, hm, hy⟩ := leastR (fun a b : Nat => run l a b) (fun a b c h g => run_trans h g) U (fun a ha => hr a ((hU a).1 ha).1) (by
    intro e
    have := (hU i0).2 ⟨by omega, hg0⟩
    rw [e] at this; cases this)
  obtain ⟨hmn, hmt⟩ := (hU m).1 hm
  refine ⟨m, hmn, ?_⟩
  unfold freeF
  rw [hmt, List.all_eq_true.2 (fun e he => ?_)]
  · rfl
  · unfold freeE
    by_cases hd : e.dst = m
    · have hb := hl e he
      have hs : gb t e.src = true := by
        cases hg : gb t e.src with
        | true => rfl
        | false =>
          exfalso
          refine hy e.src.toNat ((hU _).2 ⟨by omega, hg⟩) ?_
          have := run_edge he
          rw [hd] at this
          rwa [show ((e.src.toNat : Nat) : Int) = e.src by omega]
      simp [hs]
    · simp [hd]
end Go.Eng
