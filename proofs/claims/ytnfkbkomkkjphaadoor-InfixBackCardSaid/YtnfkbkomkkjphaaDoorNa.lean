/- Each function of the program, walked over plain data: what it comes to, at all arguments. -/
import Derived.Test.YtnfkbkomkkjphaaDoorEc
import Derived.Test.YtnfkbkomkkjphaaDoorProg
import Derived.KernelRfl
namespace Go.Eng
open Go
set_option linter.unusedSimpArgs false

abbrev Str := List UInt8
def dI (n : Int) : D := .sc (.int .i64 n)
def dS (s : Str) : D := .sc (.string (st s))
def dB (b : Bool) : D := .sc (.bool b)
def aI (n : Int) : A := .c (.d (.sc (.int .i64 n)))
def aS (s : Str) : A := .c (.d (.sc (.string (st s))))
def aB (b : Bool) : A := .c (.d (.sc (.bool b)))
def aU (c : Int) : A := .c (.d (.sc (.int .u8 c)))
def aF (l : List (List D)) : A := .c (.d (.fz l))

inductive T
  | mk (op n : Int) (kids : List T)
def T.op : T → Int | .mk o _ _ => o
def T.n : T → Int | .mk _ n _ => n
def T.kids : T → List T | .mk _ _ k => k
mutual
def T.row : T → List D
  | .mk o n k => [dI o, dI n, .fz (T.rows k)]
def T.rows : List T → List (List D)
  | [] => []
  | t :: l => t.row :: T.rows l
end
theorem T.rows_eq (l : List T) : T.rows l = l.map T.row := by
  induction l with
  | nil => rfl
  | cons t l ih => simp [T.rows, ih]
theorem T.row_eq (t : T) : t.row = [dI t.op, dI t.n, .fz (t.kids.map T.row)] := by
  cases t with | mk o n k => simp [T.row, T.rows_eq, T.op, T.n, T.kids]
theorem T.eta (t : T) : .mk t.op t.n t.kids = t := by cases t; rfl
mutual
def T.size : T → Nat
  | .mk _ _ k => T.sizes k + 1
def T.sizes : List T → Nat
  | [] => 0
  | t :: l => t.size + T.sizes l
end
theorem T.size_eq (t : T) : t.size = T.sizes t.kids + 1 := by cases t; rfl
theorem T.size_kid {k : T} : ∀ {l : List T}, k ∈ l → k.size ≤ T.sizes l
  | [], h => by simp at h
  | a :: l, h => by
    simp only [T.sizes]
    rcases List.mem_cons.1 h with rfl | h
    · omega
    · have := T.size_kid h; omega
theorem T.size_lt {k t : T} (h : k ∈ t.kids) : k.size < t.size := by
  have := T.size_kid h; have := T.size_eq t; omega
def T.a (t : T) : A := .agg [.d (dI t.op), .d (dI t.n), .d (.fz (t.kids.map T.row))]
def t0 : T := .mk 0 0 []
instance : Inhabited T := ⟨t0⟩

structure Tok where
  kind : Int
  pos : Int
  text : Str
instance : Inhabited Tok := ⟨⟨0, 0, []⟩⟩
def Tok.row (t : Tok) : List D := [dI t.kind, dI t.pos, dS t.text]
def Tok.a (t : Tok) : A := .agg [.d (dI t.kind), .d (dI t.pos), .d (dS t.text)]

structure Btw where
  text : Str
  row : Int
  op : Int
  turned : Bool
  deny : Bool
instance : Inhabited Btw := ⟨⟨[], 0, 0, false, false⟩⟩
def Btw.cells (b : Btw) : List D := [dS b.text, dI b.row, dI b.op, dB b.turned, dB b.deny]
def Btw.a (b : Btw) : A := .agg [.d (dS b.text), .d (dI b.row), .d (dI b.op), .d (dB b.turned), .d (dB b.deny)]

structure Wd where
  text : Str
  kids : Int
  of : Int
  out : Int
instance : Inhabited Wd := ⟨⟨[], 0, 0, 0⟩⟩
def Wd.row (b : Wd) : List D := [dS b.text, dI b.kids, dI b.of, dI b.out]

def signs : List Str := [[33, 61], [60, 61], [62, 61], [43], [45], [42], [47], [37], [61], [60], [62], [40], [41]]
def betweens : List Btw := [⟨[111, 114], 1, 14, false, false⟩, ⟨[97, 110, 100], 2, 13, false, false⟩, ⟨[61], 4, 10, false, false⟩, ⟨[33, 61], 4, 10, false, true⟩, ⟨[60], 4, 11, false, false⟩, ⟨[60, 61], 4, 12, false, false⟩,
  ⟨[62], 4, 11, true, false⟩, ⟨[62, 61], 4, 12, true, false⟩, ⟨[43], 5, 5, false, false⟩, ⟨[45], 5, 6, false, false⟩, ⟨[42], 6, 7, false, false⟩, ⟨[47], 6, 8, false, false⟩, ⟨[37], 6, 9, false, false⟩]
def words : List Wd := [⟨[], 0, 0, 0⟩, ⟨[], 0, 0, 0⟩, ⟨[], 0, 0, 0⟩, ⟨[110, 101, 103], 1, 1, 1⟩, ⟨[110, 111, 116], 1, 2, 2⟩, ⟨[97, 100, 100], 2, 1, 1⟩, ⟨[115, 117, 98], 2, 1, 1⟩, ⟨[109, 117, 108], 2, 1, 1⟩,
  ⟨[100, 105, 118], 2, 1, 1⟩, ⟨[109, 111, 100], 2, 1, 1⟩, ⟨[101, 113], 2, 1, 2⟩, ⟨[108, 116], 2, 1, 2⟩, ⟨[108, 101], 2, 1, 2⟩, ⟨[97, 110, 100], 2, 2, 2⟩, ⟨[111, 114], 2, 2, 2⟩]
def sRow (s : Str) : List D := [dS s]

theorem byteAt_gt {l : Str} {i : Nat} : byteAt l i = ((gt l i).toNat : Int) := rfl

theorem subL_n {α : Type} (n : Nat) (s : List α) : subL none (some n) s = s.take n := by simp [subL, loOf, hiOf]
theorem subL_l {α : Type} (n : Nat) (s : List α) : subL (some n) none s = s.drop n := by simp [subL, loOf, hiOf]
theorem subL_ln {α : Type} (k n : Nat) (s : List α) : subL (some k) (some n) s = (s.take n).drop k := by simp [subL, loOf, hiOf]
theorem dropM {α β : Type} (f : α → β) (l : List α) (i : Nat) : (l.map f).drop i = (l.drop i).map f := (List.map_drop ..).symm
theorem cutM (k : Nat) (l : List D) : cutCells k (l.map .d) = l.map .d := by
  rw [cutCells_eq, List.map_map]; rfl
attribute [go_sem] cutM dropM subL_n subL_l subL_ln dI dS dB aI aS aB aU aF T.row_eq T.a Tok.row Tok.a Btw.cells Btw.a Wd.row sRow
end Go.Eng
open Go Go.Proofs
namespace Go.Eng
set_option linter.unusedSimpArgs false
noncomputable def env : Env := mkEnv Tryd.prog (by kernel_rfl) (fun g => match g with | 0 => .pa (signs.map sRow) | 1 => .pf (betweens.flatMap Btw.cells) 0 | 2 => .pa (words.map Wd.row) | _ => .any) (fun g => by split <;> rfl) [75, 77]
theorem g0 : env.glob 0 = .pa (signs.map sRow) := rfl
theorem g1 : env.glob 1 = .pf (betweens.flatMap Btw.cells) 0 := rfl
theorem g2 : env.glob 2 = .pa (words.map Wd.row) := rfl
attribute [go_sem] g0 g1 g2

theorem t2und : env.und 2 = some (.int .i64) := by kernel_rfl
theorem t2kind : env.kind 2 = some .i64 := by kernel_rfl
theorem t2ty : env.ty 2 = none := by kernel_rfl
theorem t2agg : env.agg 2 = some false := by kernel_rfl
theorem t2size : env.size 2 = some 1 := by kernel_rfl
theorem t2inf : env.inf 2 = some (1, 8, (.int .i64 0)) := by kernel_rfl
theorem t3und : env.und 3 = some (.int .i64) := by kernel_rfl
theorem t3kind : env.kind 3 = some .i64 := by kernel_rfl
theorem t3ty : env.ty 3 = none := by kernel_rfl
theorem t3agg : env.agg 3 = some false := by kernel_rfl
theorem t3size : env.size 3 = some 1 := by kernel_rfl
theorem t3inf : env.inf 3 = some (1, 8, (.int .i64 0)) := by kernel_rfl
theorem t4und : env.und 4 = some .bool := by kernel_rfl
theorem t4bln : env.bln 4 = true := by kernel_rfl
theorem t4ty : env.ty 4 = none := by kernel_rfl
theorem t4agg : env.agg 4 = some false := by kernel_rfl
theorem t4size : env.size 4 = some 1 := by kernel_rfl
theorem t4inf : env.inf 4 = some (1, 1, (.bool false)) := by kernel_rfl
theorem t5und : env.und 5 = some (.int .u8) := by kernel_rfl
theorem t5kind : env.kind 5 = some .u8 := by kernel_rfl
theorem t5ty : env.ty 5 = none := by kernel_rfl
theorem t5agg : env.agg 5 = some false := by kernel_rfl
theorem t5size : env.size 5 = some 1 := by kernel_rfl
theorem t5inf : env.inf 5 = some (1, 1, (.int .u8 0)) := by kernel_rfl
theorem t9und : env.und 9 = some .string := by kernel_rfl
theorem t9str : env.str 9 = true := by kernel_rfl
theorem t9noInt : env.noInt 9 = true := by kernel_rfl
theorem t9ty : env.ty 9 = none := by kernel_rfl
theorem t9agg : env.agg 9 = some false := by kernel_rfl
theorem t9size : env.size 9 = some 1 := by kernel_rfl
theorem t9inf : env.inf 9 = some (1, 16, (.string ⟨#[]⟩)) := by kernel_rfl
theorem t12und : env.und 12 = some (.int .u64) := by kernel_rfl
theorem t12kind : env.kind 12 = some .u64 := by kernel_rfl
theorem t12ty : env.ty 12 = none := by kernel_rfl
theorem t12agg : env.agg 12 = some false := by kernel_rfl
theorem t12size : env.size 12 = some 1 := by kernel_rfl
theorem t12inf : env.inf 12 = some (1, 8, (.int .u64 0)) := by kernel_rfl
theorem t13isS : env.isStruct 13 = true := by kernel_rfl
theorem t13f0 : env.fld 13 0 = some (0, 9) := by kernel_rfl
theorem t13f1 : env.fld 13 1 = some (1, 12) := by kernel_rfl
theorem t13ty : env.ty 13 = none := by kernel_rfl
theorem t13agg : env.agg 13 = some true := by kernel_rfl
theorem t13size : env.size 13 = some 2 := by kernel_rfl
theorem t13inf : env.inf 13 = some (2, 24, (.agg #[(.string ⟨#[]⟩), (.int .u64 0)])) := by kernel_rfl
theorem t21und : env.und 21 = some (.int .i32) := by kernel_rfl
theorem t21kind : env.kind 21 = some .i32 := by kernel_rfl
theorem t21ty : env.ty 21 = none := by kernel_rfl
theorem t21agg : env.agg 21 = some false := by kernel_rfl
theorem t21size : env.size 21 = some 1 := by kernel_rfl
theorem t21inf : env.inf 21 = some (1, 4, (.int .i32 0)) := by kernel_rfl
theorem t22und : env.und 22 = some (.slice 32) := by kernel_rfl
theorem t22noInt : env.noInt 22 = true := by kernel_rfl
theorem t22elt : env.elt 22 = some 32 := by kernel_rfl
theorem t22ty : env.ty 22 = none := by kernel_rfl
theorem t22agg : env.agg 22 = some false := by kernel_rfl
theorem t22size : env.size 22 = some 1 := by kernel_rfl
theorem t22inf : env.inf 22 = some (1, 24, (.slice none 0 0)) := by kernel_rfl
theorem t23und : env.und 23 = some (.int .i64) := by kernel_rfl
theorem t23kind : env.kind 23 = some .i64 := by kernel_rfl
theorem t23ty : env.ty 23 = none := by kernel_rfl
theorem t23agg : env.agg 23 = some false := by kernel_rfl
theorem t23size : env.size 23 = some 1 := by kernel_rfl
theorem t23inf : env.inf 23 = some (1, 8, (.int .i64 0)) := by kernel_rfl
theorem t27und : env.und 27 = some (.slice 33) := by kernel_rfl
theorem t27noInt : env.noInt 27 = true := by kernel_rfl
theorem t27elt : env.elt 27 = some 33 := by kernel_rfl
theorem t27ty : env.ty 27 = none := by kernel_rfl
theorem t27agg : env.agg 27 = some false := by kernel_rfl
theorem t27size : env.size 27 = some 1 := by kernel_rfl
theorem t27inf : env.inf 27 = some (1, 24, (.slice none 0 0)) := by kernel_rfl
theorem t28isS : env.isStruct 28 = true := by kernel_rfl
theorem t28f0 : env.fld 28 0 = some (0, 27) := by kernel_rfl
theorem t28f1 : env.fld 28 1 = some (1, 3) := by kernel_rfl
theorem t28ty : env.ty 28 = none := by kernel_rfl
theorem t28agg : env.agg 28 = some true := by kernel_rfl
theorem t28size : env.size 28 = some 2 := by kernel_rfl
theorem t28inf : env.inf 28 = some (2, 32, (.agg #[(.slice none 0 0), (.int .i64 0)])) := by kernel_rfl
theorem t29isS : env.isStruct 29 = true := by kernel_rfl
theorem t29f0 : env.fld 29 0 = some (0, 27) := by kernel_rfl
theorem t29f1 : env.fld 29 1 = some (1, 3) := by kernel_rfl
theorem t29ty : env.ty 29 = none := by kernel_rfl
theorem t29agg : env.agg 29 = some true := by kernel_rfl
theorem t29size : env.size 29 = some 2 := by kernel_rfl
theorem t29inf : env.inf 29 = some (2, 32, (.agg #[(.slice none 0 0), (.int .i64 0)])) := by kernel_rfl
theorem t31isS : env.isStruct 31 = true := by kernel_rfl
theorem t31f0 : env.fld 31 0 = some (0, 3) := by kernel_rfl
theorem t31f1 : env.fld 31 1 = some (1, 3) := by kernel_rfl
theorem t31f2 : env.fld 31 2 = some (2, 9) := by kernel_rfl
theorem t31ty : env.ty 31 = none := by kernel_rfl
theorem t31agg : env.agg 31 = some true := by kernel_rfl
theorem t31size : env.size 31 = some 3 := by kernel_rfl
theorem t31inf : env.inf 31 = some (3, 32, (.agg #[(.int .i64 0), (.int .i64 0), (.string ⟨#[]⟩)])) := by kernel_rfl
theorem t32isS : env.isStruct 32 = true := by kernel_rfl
theorem t32f0 : env.fld 32 0 = some (0, 3) := by kernel_rfl
theorem t32f1 : env.fld 32 1 = some (1, 3) := by kernel_rfl
theorem t32f2 : env.fld 32 2 = some (2, 9) := by kernel_rfl
theorem t32ty : env.ty 32 = none := by kernel_rfl
theorem t32agg : env.agg 32 = some true := by kernel_rfl
theorem t32size : env.size 32 = some 3 := by kernel_rfl
theorem t32inf : env.inf 32 = some (3, 32, (.agg #[(.int .i64 0), (.int .i64 0), (.string ⟨#[]⟩)])) := by kernel_rfl
theorem t33isS : env.isStruct 33 = true := by kernel_rfl
theorem t33f0 : env.fld 33 0 = some (0, 3) := by kernel_rfl
theorem t33f1 : env.fld 33 1 = some (1, 3) := by kernel_rfl
theorem t33f2 : env.fld 33 2 = some (2, 9) := by kernel_rfl
theorem t33ty : env.ty 33 = none := by kernel_rfl
theorem t33agg : env.agg 33 = some true := by kernel_rfl
theorem t33size : env.size 33 = some 3 := by kernel_rfl
theorem t33inf : env.inf 33 = some (3, 32, (.agg #[(.int .i64 0), (.int .i64 0), (.string ⟨#[]⟩)])) := by kernel_rfl
theorem t35und : env.und 35 = some (.slice 37) := by kernel_rfl
theorem t35noInt : env.noInt 35 = true := by kernel_rfl
theorem t35elt : env.elt 35 = some 37 := by kernel_rfl
theorem t35ty : env.ty 35 = none := by kernel_rfl
theorem t35agg : env.agg 35 = some false := by kernel_rfl
theorem t35size : env.size 35 = some 1 := by kernel_rfl
theorem t35inf : env.inf 35 = some (1, 24, (.slice none 0 0)) := by kernel_rfl
theorem t36isS : env.isStruct 36 = true := by kernel_rfl
theorem t36f0 : env.fld 36 0 = some (0, 3) := by kernel_rfl
theorem t36f1 : env.fld 36 1 = some (1, 3) := by kernel_rfl
theorem t36f2 : env.fld 36 2 = some (2, 35) := by kernel_rfl
theorem t36ty : env.ty 36 = none := by kernel_rfl
theorem t36agg : env.agg 36 = some true := by kernel_rfl
theorem t36size : env.size 36 = some 3 := by kernel_rfl
theorem t36inf : env.inf 36 = some (3, 40, (.agg #[(.int .i64 0), (.int .i64 0), (.slice none 0 0)])) := by kernel_rfl
theorem t37isS : env.isStruct 37 = true := by kernel_rfl
theorem t37f0 : env.fld 37 0 = some (0, 3) := by kernel_rfl
theorem t37f1 : env.fld 37 1 = some (1, 3) := by kernel_rfl
theorem t37f2 : env.fld 37 2 = some (2, 35) := by kernel_rfl
theorem t37ty : env.ty 37 = none := by kernel_rfl
theorem t37agg : env.agg 37 = some true := by kernel_rfl
theorem t37size : env.size 37 = some 3 := by kernel_rfl
theorem t37inf : env.inf 37 = some (3, 40, (.agg #[(.int .i64 0), (.int .i64 0), (.slice none 0 0)])) := by kernel_rfl
theorem t40isS : env.isStruct 40 = true := by kernel_rfl
theorem t40f0 : env.fld 40 0 = some (0, 37) := by kernel_rfl
theorem t40f1 : env.fld 40 1 = some (3, 3) := by kernel_rfl
theorem t40f2 : env.fld 40 2 = some (4, 3) := by kernel_rfl
theorem t40ty : env.ty 40 = none := by kernel_rfl
theorem t40agg : env.agg 40 = some true := by kernel_rfl
theorem t40size : env.size 40 = some 5 := by kernel_rfl
theorem t40inf : env.inf 40 = some (5, 56, (.agg #[(.int .i64 0), (.int .i64 0), (.slice none 0 0), (.int .i64 0), (.int .i64 0)])) := by kernel_rfl
theorem t41isS : env.isStruct 41 = true := by kernel_rfl
theorem t41f0 : env.fld 41 0 = some (0, 37) := by kernel_rfl
theorem t41f1 : env.fld 41 1 = some (3, 3) := by kernel_rfl
theorem t41f2 : env.fld 41 2 = some (4, 3) := by kernel_rfl
theorem t41ty : env.ty 41 = none := by kernel_rfl
theorem t41agg : env.agg 41 = some true := by kernel_rfl
theorem t41size : env.size 41 = some 5 := by kernel_rfl
theorem t41inf : env.inf 41 = some (5, 56, (.agg #[(.int .i64 0), (.int .i64 0), (.slice none 0 0), (.int .i64 0), (.int .i64 0)])) := by kernel_rfl
theorem t45und : env.und 45 = some (.pointer 47) := by kernel_rfl
theorem t45ptr : env.ptr 45 = true := by kernel_rfl
theorem t45ty : env.ty 45 = none := by kernel_rfl
theorem t45agg : env.agg 45 = some false := by kernel_rfl
theorem t45size : env.size 45 = some 1 := by kernel_rfl
theorem t45inf : env.inf 45 = some (1, 8, (.pointer none)) := by kernel_rfl
theorem t46isS : env.isStruct 46 = true := by kernel_rfl
theorem t46f0 : env.fld 46 0 = some (0, 3) := by kernel_rfl
theorem t46ty : env.ty 46 = none := by kernel_rfl
theorem t46agg : env.agg 46 = some true := by kernel_rfl
theorem t46size : env.size 46 = some 1 := by kernel_rfl
theorem t46inf : env.inf 46 = some (1, 8, (.agg #[(.int .i64 0)])) := by kernel_rfl
theorem t47isS : env.isStruct 47 = true := by kernel_rfl
theorem t47f0 : env.fld 47 0 = some (0, 3) := by kernel_rfl
theorem t47ty : env.ty 47 = none := by kernel_rfl
theorem t47agg : env.agg 47 = some true := by kernel_rfl
theorem t47size : env.size 47 = some 1 := by kernel_rfl
theorem t47inf : env.inf 47 = some (1, 8, (.agg #[(.int .i64 0)])) := by kernel_rfl
theorem t62und : env.und 62 = some (.pointer 64) := by kernel_rfl
theorem t62ptr : env.ptr 62 = true := by kernel_rfl
theorem t62ty : env.ty 62 = none := by kernel_rfl
theorem t62agg : env.agg 62 = some false := by kernel_rfl
theorem t62size : env.size 62 = some 1 := by kernel_rfl
theorem t62inf : env.inf 62 = some (1, 8, (.pointer none)) := by kernel_rfl
theorem t63isS : env.isStruct 63 = true := by kernel_rfl
theorem t63f0 : env.fld 63 0 = some (0, 22) := by kernel_rfl
theorem t63f1 : env.fld 63 1 = some (1, 3) := by kernel_rfl
theorem t63f2 : env.fld 63 2 = some (2, 3) := by kernel_rfl
theorem t63ty : env.ty 63 = none := by kernel_rfl
theorem t63agg : env.agg 63 = some true := by kernel_rfl
theorem t63size : env.size 63 = some 3 := by kernel_rfl
theorem t63inf : env.inf 63 = some (3, 40, (.agg #[(.slice none 0 0), (.int .i64 0), (.int .i64 0)])) := by kernel_rfl
theorem t64isS : env.isStruct 64 = true := by kernel_rfl
theorem t64f0 : env.fld 64 0 = some (0, 22) := by kernel_rfl
theorem t64f1 : env.fld 64 1 = some (1, 3) := by kernel_rfl
theorem t64f2 : env.fld 64 2 = some (2, 3) := by kernel_rfl
theorem t64ty : env.ty 64 = none := by kernel_rfl
theorem t64agg : env.agg 64 = some true := by kernel_rfl
theorem t64size : env.size 64 = some 3 := by kernel_rfl
theorem t64inf : env.inf 64 = some (3, 40, (.agg #[(.slice none 0 0), (.int .i64 0), (.int .i64 0)])) := by kernel_rfl
theorem t67isS : env.isStruct 67 = true := by kernel_rfl
theorem t67f0 : env.fld 67 0 = some (0, 37) := by kernel_rfl
theorem t67f1 : env.fld 67 1 = some (3, 3) := by kernel_rfl
theorem t67f2 : env.fld 67 2 = some (4, 3) := by kernel_rfl
theorem t67ty : env.ty 67 = none := by kernel_rfl
theorem t67agg : env.agg 67 = some true := by kernel_rfl
theorem t67size : env.size 67 = some 5 := by kernel_rfl
theorem t67inf : env.inf 67 = some (5, 56, (.agg #[(.int .i64 0), (.int .i64 0), (.slice none 0 0), (.int .i64 0), (.int .i64 0)])) := by kernel_rfl
theorem t68isS : env.isStruct 68 = true := by kernel_rfl
theorem t68f0 : env.fld 68 0 = some (0, 37) := by kernel_rfl
theorem t68f1 : env.fld 68 1 = some (3, 3) := by kernel_rfl
theorem t68f2 : env.fld 68 2 = some (4, 3) := by kernel_rfl
theorem t68ty : env.ty 68 = none := by kernel_rfl
theorem t68agg : env.agg 68 = some true := by kernel_rfl
theorem t68size : env.size 68 = some 5 := by kernel_rfl
theorem t68inf : env.inf 68 = some (5, 56, (.agg #[(.int .i64 0), (.int .i64 0), (.slice none 0 0), (.int .i64 0), (.int .i64 0)])) := by kernel_rfl
theorem t71und : env.und 71 = some (.pointer 77) := by kernel_rfl
theorem t71ptr : env.ptr 71 = true := by kernel_rfl
theorem t71ty : env.ty 71 = none := by kernel_rfl
theorem t71agg : env.agg 71 = some false := by kernel_rfl
theorem t71size : env.size 71 = some 1 := by kernel_rfl
theorem t71inf : env.inf 71 = some (1, 8, (.pointer none)) := by kernel_rfl
theorem t72und : env.und 72 = some (.pointer 75) := by kernel_rfl
theorem t72ptr : env.ptr 72 = true := by kernel_rfl
theorem t72ty : env.ty 72 = none := by kernel_rfl
theorem t72agg : env.agg 72 = some false := by kernel_rfl
theorem t72size : env.size 72 = some 1 := by kernel_rfl
theorem t72inf : env.inf 72 = some (1, 8, (.pointer none)) := by kernel_rfl
theorem t73und : env.und 73 = some (.slice 5) := by kernel_rfl
theorem t73noInt : env.noInt 73 = true := by kernel_rfl
theorem t73elt : env.elt 73 = some 5 := by kernel_rfl
theorem t73ty : env.ty 73 = none := by kernel_rfl
theorem t73agg : env.agg 73 = some false := by kernel_rfl
theorem t73size : env.size 73 = some 1 := by kernel_rfl
theorem t73inf : env.inf 73 = some (1, 24, (.slice none 0 0)) := by kernel_rfl
theorem t74isS : env.isStruct 74 = true := by kernel_rfl
theorem t74f0 : env.fld 74 0 = some (0, 72) := by kernel_rfl
theorem t74f1 : env.fld 74 1 = some (1, 73) := by kernel_rfl
theorem t74ty : env.ty 74 = none := by kernel_rfl
theorem t74agg : env.agg 74 = some true := by kernel_rfl
theorem t74size : env.size 74 = some 2 := by kernel_rfl
theorem t74inf : env.inf 74 = some (2, 32, (.agg #[(.pointer none), (.slice none 0 0)])) := by kernel_rfl
theorem t75isS : env.isStruct 75 = true := by kernel_rfl
theorem t75f0 : env.fld 75 0 = some (0, 72) := by kernel_rfl
theorem t75f1 : env.fld 75 1 = some (1, 73) := by kernel_rfl
theorem t75ty : env.ty 75 = some 75 := by kernel_rfl
theorem t75agg : env.agg 75 = some true := by kernel_rfl
theorem t75size : env.size 75 = some 2 := by kernel_rfl
theorem t75inf : env.inf 75 = some (2, 32, (.agg #[(.pointer none), (.slice none 0 0)])) := by kernel_rfl
theorem t76isS : env.isStruct 76 = true := by kernel_rfl
theorem t76f0 : env.fld 76 0 = some (0, 75) := by kernel_rfl
theorem t76ty : env.ty 76 = none := by kernel_rfl
theorem t76agg : env.agg 76 = some true := by kernel_rfl
theorem t76size : env.size 76 = some 2 := by kernel_rfl
theorem t76inf : env.inf 76 = some (2, 32, (.agg #[(.pointer none), (.slice none 0 0)])) := by kernel_rfl
theorem t77isS : env.isStruct 77 = true := by kernel_rfl
theorem t77f0 : env.fld 77 0 = some (0, 75) := by kernel_rfl
theorem t77ty : env.ty 77 = some 77 := by kernel_rfl
theorem t77agg : env.agg 77 = some true := by kernel_rfl
theorem t77size : env.size 77 = some 2 := by kernel_rfl
theorem t77inf : env.inf 77 = some (2, 32, (.agg #[(.pointer none), (.slice none 0 0)])) := by kernel_rfl
theorem t83und : env.und 83 = some (.slice 9) := by kernel_rfl
theorem t83noInt : env.noInt 83 = true := by kernel_rfl
theorem t83elt : env.elt 83 = some 9 := by kernel_rfl
theorem t83ty : env.ty 83 = none := by kernel_rfl
theorem t83agg : env.agg 83 = some false := by kernel_rfl
theorem t83size : env.size 83 = some 1 := by kernel_rfl
theorem t83inf : env.inf 83 = some (1, 24, (.slice none 0 0)) := by kernel_rfl
theorem t84und : env.und 84 = some (.array 13 9) := by kernel_rfl
theorem t84arr : env.arr 84 = some (13, 9) := by kernel_rfl
theorem t84ty : env.ty 84 = none := by kernel_rfl
theorem t84agg : env.agg 84 = some true := by kernel_rfl
theorem t84size : env.size 84 = some 13 := by kernel_rfl
theorem t84inf : env.inf 84 = some (13, 208, (.agg #[(.string ⟨#[]⟩), (.string ⟨#[]⟩), (.string ⟨#[]⟩), (.string ⟨#[]⟩), (.string ⟨#[]⟩), (.string ⟨#[]⟩), (.string ⟨#[]⟩), (.string ⟨#[]⟩), (.string ⟨#[]⟩), (.string ⟨#[]⟩), (.string ⟨#[]⟩), (.string ⟨#[]⟩), (.string ⟨#[]⟩)])) := by kernel_rfl
theorem t90isS : env.isStruct 90 = true := by kernel_rfl
theorem t90f0 : env.fld 90 0 = some (0, 9) := by kernel_rfl
theorem t90f1 : env.fld 90 1 = some (1, 3) := by kernel_rfl
theorem t90f2 : env.fld 90 2 = some (2, 3) := by kernel_rfl
theorem t90f3 : env.fld 90 3 = some (3, 4) := by kernel_rfl
theorem t90f4 : env.fld 90 4 = some (4, 4) := by kernel_rfl
theorem t90ty : env.ty 90 = none := by kernel_rfl
theorem t90agg : env.agg 90 = some true := by kernel_rfl
theorem t90size : env.size 90 = some 5 := by kernel_rfl
theorem t90inf : env.inf 90 = some (5, 40, (.agg #[(.string ⟨#[]⟩), (.int .i64 0), (.int .i64 0), (.bool false), (.bool false)])) := by kernel_rfl
theorem t91isS : env.isStruct 91 = true := by kernel_rfl
theorem t91f0 : env.fld 91 0 = some (0, 9) := by kernel_rfl
theorem t91f1 : env.fld 91 1 = some (1, 3) := by kernel_rfl
theorem t91f2 : env.fld 91 2 = some (2, 3) := by kernel_rfl
theorem t91f3 : env.fld 91 3 = some (3, 4) := by kernel_rfl
theorem t91f4 : env.fld 91 4 = some (4, 4) := by kernel_rfl
theorem t91ty : env.ty 91 = none := by kernel_rfl
theorem t91agg : env.agg 91 = some true := by kernel_rfl
theorem t91size : env.size 91 = some 5 := by kernel_rfl
theorem t91inf : env.inf 91 = some (5, 40, (.agg #[(.string ⟨#[]⟩), (.int .i64 0), (.int .i64 0), (.bool false), (.bool false)])) := by kernel_rfl
theorem t108und : env.und 108 = some (.pointer 5) := by kernel_rfl
theorem t108ptr : env.ptr 108 = true := by kernel_rfl
theorem t108ty : env.ty 108 = none := by kernel_rfl
theorem t108agg : env.agg 108 = some false := by kernel_rfl
theorem t108size : env.size 108 = some 1 := by kernel_rfl
theorem t108inf : env.inf 108 = some (1, 8, (.pointer none)) := by kernel_rfl
theorem t114isS : env.isStruct 114 = true := by kernel_rfl
theorem t114f0 : env.fld 114 0 = some (0, 37) := by kernel_rfl
theorem t114f1 : env.fld 114 1 = some (3, 3) := by kernel_rfl
theorem t114ty : env.ty 114 = none := by kernel_rfl
theorem t114agg : env.agg 114 = some true := by kernel_rfl
theorem t114size : env.size 114 = some 4 := by kernel_rfl
theorem t114inf : env.inf 114 = some (4, 48, (.agg #[(.int .i64 0), (.int .i64 0), (.slice none 0 0), (.int .i64 0)])) := by kernel_rfl
theorem t115isS : env.isStruct 115 = true := by kernel_rfl
theorem t115f0 : env.fld 115 0 = some (0, 37) := by kernel_rfl
theorem t115f1 : env.fld 115 1 = some (3, 3) := by kernel_rfl
theorem t115ty : env.ty 115 = none := by kernel_rfl
theorem t115agg : env.agg 115 = some true := by kernel_rfl
theorem t115size : env.size 115 = some 4 := by kernel_rfl
theorem t115inf : env.inf 115 = some (4, 48, (.agg #[(.int .i64 0), (.int .i64 0), (.slice none 0 0), (.int .i64 0)])) := by kernel_rfl
theorem t117und : env.und 117 = some (.array 13 91) := by kernel_rfl
theorem t117arr : env.arr 117 = some (13, 91) := by kernel_rfl
theorem t117ty : env.ty 117 = none := by kernel_rfl
theorem t117agg : env.agg 117 = some true := by kernel_rfl
theorem t117size : env.size 117 = some 65 := by kernel_rfl
theorem t117inf : env.inf 117 = some (65, 520, (.agg #[(.string ⟨#[]⟩), (.int .i64 0), (.int .i64 0), (.bool false), (.bool false), (.string ⟨#[]⟩), (.int .i64 0), (.int .i64 0), (.bool false), (.bool false), (.string ⟨#[]⟩), (.int .i64 0), (.int .i64 0), (.bool false), (.bool false), (.string ⟨#[]⟩), (.int .i64 0), (.int .i64 0), (.bool false), (.bool false), (.string ⟨#[]⟩), (.int .i64 0), (.int .i64 0), (.bool false), (.bool false), (.string ⟨#[]⟩), (.int .i64 0), (.int .i64 0), (.bool false), (.bool false), (.string ⟨#[]⟩), (.int .i64 0), (.int .i64 0), (.bool false), (.bool false), (.string ⟨#[]⟩), (.int .i64 0), (.int .i64 0), (.bool false), (.bool false), (.string ⟨#[]⟩), (.int .i64 0), (.int .i64 0), (.bool false), (.bool false), (.string ⟨#[]⟩), (.int .i64 0), (.int .i64 0), (.bool false), (.bool false), (.string ⟨#[]⟩), (.int .i64 0), (.int .i64 0), (.bool false), (.bool false), (.string ⟨#[]⟩), (.int .i64 0), (.int .i64 0), (.bool false), (.bool false), (.string ⟨#[]⟩), (.int .i64 0), (.int .i64 0), (.bool false), (.bool false)])) := by kernel_rfl
theorem t118isS : env.isStruct 118 = true := by kernel_rfl
theorem t118f0 : env.fld 118 0 = some (0, 9) := by kernel_rfl
theorem t118f1 : env.fld 118 1 = some (1, 3) := by kernel_rfl
theorem t118f2 : env.fld 118 2 = some (2, 3) := by kernel_rfl
theorem t118f3 : env.fld 118 3 = some (3, 3) := by kernel_rfl
theorem t118ty : env.ty 118 = none := by kernel_rfl
theorem t118agg : env.agg 118 = some true := by kernel_rfl
theorem t118size : env.size 118 = some 4 := by kernel_rfl
theorem t118inf : env.inf 118 = some (4, 40, (.agg #[(.string ⟨#[]⟩), (.int .i64 0), (.int .i64 0), (.int .i64 0)])) := by kernel_rfl
theorem t119isS : env.isStruct 119 = true := by kernel_rfl
theorem t119f0 : env.fld 119 0 = some (0, 9) := by kernel_rfl
theorem t119f1 : env.fld 119 1 = some (1, 3) := by kernel_rfl
theorem t119f2 : env.fld 119 2 = some (2, 3) := by kernel_rfl
theorem t119f3 : env.fld 119 3 = some (3, 3) := by kernel_rfl
theorem t119ty : env.ty 119 = none := by kernel_rfl
theorem t119agg : env.agg 119 = some true := by kernel_rfl
theorem t119size : env.size 119 = some 4 := by kernel_rfl
theorem t119inf : env.inf 119 = some (4, 40, (.agg #[(.string ⟨#[]⟩), (.int .i64 0), (.int .i64 0), (.int .i64 0)])) := by kernel_rfl
theorem t120und : env.und 120 = some (.array 15 119) := by kernel_rfl
theorem t120arr : env.arr 120 = some (15, 119) := by kernel_rfl
theorem t120ty : env.ty 120 = none := by kernel_rfl
theorem t120agg : env.agg 120 = some true := by kernel_rfl
theorem t120size : env.size 120 = some 60 := by kernel_rfl
theorem t120inf : env.inf 120 = some (60, 600, (.agg #[(.string ⟨#[]⟩), (.int .i64 0), (.int .i64 0), (.int .i64 0), (.string ⟨#[]⟩), (.int .i64 0), (.int .i64 0), (.int .i64 0), (.string ⟨#[]⟩), (.int .i64 0), (.int .i64 0), (.int .i64 0), (.string ⟨#[]⟩), (.int .i64 0), (.int .i64 0), (.int .i64 0), (.string ⟨#[]⟩), (.int .i64 0), (.int .i64 0), (.int .i64 0), (.string ⟨#[]⟩), (.int .i64 0), (.int .i64 0), (.int .i64 0), (.string ⟨#[]⟩), (.int .i64 0), (.int .i64 0), (.int .i64 0), (.string ⟨#[]⟩), (.int .i64 0), (.int .i64 0), (.int .i64 0), (.string ⟨#[]⟩), (.int .i64 0), (.int .i64 0), (.int .i64 0), (.string ⟨#[]⟩), (.int .i64 0), (.int .i64 0), (.int .i64 0), (.string ⟨#[]⟩), (.int .i64 0), (.int .i64 0), (.int .i64 0), (.string ⟨#[]⟩), (.int .i64 0), (.int .i64 0), (.int .i64 0), (.string ⟨#[]⟩), (.int .i64 0), (.int .i64 0), (.int .i64 0), (.string ⟨#[]⟩), (.int .i64 0), (.int .i64 0), (.int .i64 0), (.string ⟨#[]⟩), (.int .i64 0), (.int .i64 0), (.int .i64 0)])) := by kernel_rfl
theorem t133und : env.und 133 = some (.int .u32) := by kernel_rfl
theorem t133kind : env.kind 133 = some .u32 := by kernel_rfl
theorem t133ty : env.ty 133 = none := by kernel_rfl
theorem t133agg : env.agg 133 = some false := by kernel_rfl
theorem t133size : env.size 133 = some 1 := by kernel_rfl
theorem t133inf : env.inf 133 = some (1, 4, (.int .u32 0)) := by kernel_rfl
attribute [go_sem] t2und t2kind t2ty t2agg t2size t2inf t3und t3kind t3ty t3agg t3size t3inf t4und t4bln t4ty t4agg t4size t4inf t5und t5kind t5ty t5agg t5size t5inf t9und t9str t9noInt t9ty t9agg t9size t9inf t12und t12kind t12ty t12agg t12size t12inf t13isS t13f0 t13f1 t13ty t13agg t13size t13inf t21und t21kind t21ty t21agg t21size t21inf t22und t22noInt t22elt t22ty t22agg t22size t22inf t23und t23kind t23ty t23agg t23size t23inf t27und t27noInt t27elt t27ty t27agg t27size t27inf t28isS t28f0 t28f1 t28ty t28agg t28size t28inf t29isS t29f0 t29f1 t29ty t29agg t29size t29inf t31isS t31f0 t31f1 t31f2 t31ty t31agg t31size t31inf t32isS t32f0 t32f1 t32f2 t32ty t32agg t32size t32inf t33isS t33f0 t33f1 t33f2 t33ty t33agg t33size t33inf t35und t35noInt t35elt t35ty t35agg t35size t35inf t36isS t36f0 t36f1 t36f2 t36ty t36agg t36size t36inf t37isS t37f0 t37f1 t37f2 t37ty t37agg t37size t37inf t40isS t40f0 t40f1 t40f2 t40ty t40agg t40size t40inf t41isS t41f0 t41f1 t41f2 t41ty t41agg t41size t41inf t45und t45ptr t45ty t45agg t45size t45inf t46isS t46f0 t46ty t46agg t46size t46inf t47isS t47f0 t47ty t47agg t47size t47inf t62und t62ptr t62ty t62agg t62size t62inf t63isS t63f0 t63f1 t63f2 t63ty t63agg t63size t63inf t64isS t64f0 t64f1 t64f2 t64ty t64agg t64size t64inf t67isS t67f0 t67f1 t67f2 t67ty t67agg t67size t67inf t68isS t68f0 t68f1 t68f2 t68ty t68agg t68size t68inf t71und t71ptr t71ty t71agg t71size t71inf t72und t72ptr t72ty t72agg t72size t72inf t73und t73noInt t73elt t73ty t73agg t73size t73inf t74isS t74f0 t74f1 t74ty t74agg t74size t74inf t75isS t75f0 t75f1 t75ty t75agg t75size t75inf t76isS t76f0 t76ty t76agg t76size t76inf t77isS t77f0 t77ty t77agg t77size t77inf t83und t83noInt t83elt t83ty t83agg t83size t83inf t84und t84arr t84ty t84agg t84size t84inf t90isS t90f0 t90f1 t90f2 t90f3 t90f4 t90ty t90agg t90size t90inf t91isS t91f0 t91f1 t91f2 t91f3 t91f4 t91ty t91agg t91size t91inf t108und t108ptr t108ty t108agg t108size t108inf t114isS t114f0 t114f1 t114ty t114agg t114size t114inf t115isS t115f0 t115f1 t115ty t115agg t115size t115inf t117und t117arr t117ty t117agg t117size t117inf t118isS t118f0 t118f1 t118f2 t118f3 t118ty t118agg t118size t118inf t119isS t119f0 t119f1 t119f2 t119f3 t119ty t119agg t119size t119inf t120und t120arr t120ty t120agg t120size t120inf t133und t133kind t133ty t133agg t133size t133inf
end Go.Eng
open Go Go.Proofs
namespace Go.Eng
set_option linter.unusedSimpArgs false
set_option linter.unusedVariables false
set_option maxRecDepth 100000
set_option maxHeartbeats 8000000

def digitF (c : Int) : Bool := decide (48 ≤ c) && decide (c ≤ 57)
theorem digit_ok (c : Int) : AFn env 63 [aU c] [] (aB (digitF c)) [] := by
  refine afn_body Tryd.func63 rfl (by decide) ?_
  simp only [Tryd.ntmps63, Tryd.results63, List.length_cons, List.length_nil, List.cons_append, List.nil_append, Nat.reduceAdd, Nat.reduceSub, List.replicate]
  repeat' first
  | with_reducible refine awp_seq ?_
  | ((with_reducible refine awp_region ?_); refine zS ?_)
  | ((with_reducible refine Gd_nd ?_ ?_) <;> intro hb hb2 <;> first | contradiction | (exfalso; omega) | (refine zH hb2 ?_; try clear hb2))
  | ((with_reducible refine Gd_nb ?_ ?_) <;> intro hb <;> first | contradiction | refine zH hb ?_)
  | ((with_reducible refine Gd_d ?_ ?_) <;> intro hb hb2 <;> first | contradiction | (exfalso; omega) | (refine zH hb2 ?_; try clear hb2))
  | ((with_reducible refine Gd_b ?_ ?_) <;> intro hb <;> first | contradiction | refine zH hb ?_)
  | ((with_reducible refine Res_id ?_); refine zS ?_)
  | ((with_reducible refine awp_drawnC ?_ ?_); rfl; refine zS ?_)
  | ((with_reducible refine awp_drawnA ?_ ?_); rfl; refine zS ?_)
  | ((with_reducible refine CGd_nd ?_ ?_) <;> intro hb hb2 <;> first | contradiction | (exfalso; omega) | (refine zH hb2 ?_; try clear hb2))
  | ((with_reducible refine CGd_nb ?_ ?_) <;> intro hb <;> first | contradiction | refine zH hb ?_)
  | ((with_reducible refine CGd_d ?_ ?_) <;> intro hb hb2 <;> first | contradiction | (exfalso; omega) | (refine zH hb2 ?_; try clear hb2))
  | ((with_reducible refine CGd_b ?_ ?_) <;> intro hb <;> first | contradiction | refine zH hb ?_)
  | ((with_reducible refine CRes_id ?_); refine zS ?_)
  | ((with_reducible refine DStep_id ?_); refine zdP ?_; refine ⟨_, by first | fail | fail, fun _ => rfl, fun _ => rfl, rfl, (fun h => by first | cases h | fail), ?_⟩; try refine zS ?_)
  | ((with_reducible refine DStep_id ?_); refine zdW ?_; refine ⟨_, by first | fail | fail, fun _ => rfl, fun _ => rfl, rfl, ?_⟩; try refine zS ?_)
  | ((with_reducible refine AWP_c ?_); refine zcdT ?_)
  | ((with_reducible refine AWP_c ?_); refine zcdF ?_)
  | ((with_reducible refine AWP_c ?_); refine zcdN ?_ ?_ <;> intro hb hb2 <;> first | contradiction | (exfalso; omega) | ((try refine zH hb2 ?_); try clear hb2))
  | ((with_reducible refine AWP_c ?_); refine zcdD ?_ ?_ <;> intro hb hb2 <;> first | contradiction | (exfalso; omega) | ((try refine zH hb2 ?_); try clear hb2))
  | ((with_reducible refine AWP_c ?_); refine zcdM ?_ ?_ <;> intro hb <;> first | contradiction | (try refine zH hb ?_))
  | ((with_reducible refine AWP_c ?_); refine zcdB ?_ ?_ <;> intro hb <;> first | contradiction | (try refine zH hb ?_))
  | ((with_reducible refine awp_ret ?_); refine fin_r ?_)
  | ((with_reducible refine awp_ret ?_); refine fin_q ?_ ?_)
  | with_reducible refine fin_qn ?_ ?_
  | ((with_reducible refine awp_skip ?_); refine zS ?_)
  | with_reducible refine awp_block ?_
  | ((with_reducible refine awp_exit ?_); refine zS ?_)
  | ((with_reducible refine CallK_id ?_); refine zcF ?_; refine ⟨_, by first | fail | fail, fun _ => rfl, fun _ => rfl, rfl, ?_⟩; try refine zS ?_)
  | exact True.intro
  | fail
  all_goals simp [go_sem, digitF, *]
def joinedF (c : Int) : Bool := digitF c || decide (97 ≤ c) && decide (c ≤ 122) || decide (65 ≤ c) && decide (c ≤ 90) || decide (c = 36)
theorem joined_ok (c : Int) : AFn env 33 [aU c] [] (aB (joinedF c)) [] := by
  refine afn_body Tryd.func33 rfl (by decide) ?_
  simp only [Tryd.ntmps33, Tryd.results33, List.length_cons, List.length_nil, List.cons_append, List.nil_append, Nat.reduceAdd, Nat.reduceSub, List.replicate]
  repeat' first
  | with_reducible refine awp_seq ?_
  | ((with_reducible refine awp_region ?_); refine zS ?_)
  | ((with_reducible refine Gd_nd ?_ ?_) <;> intro hb hb2 <;> first | contradiction | (exfalso; omega) | (refine zH hb2 ?_; try clear hb2))
  | ((with_reducible refine Gd_nb ?_ ?_) <;> intro hb <;> first | contradiction | refine zH hb ?_)
  | ((with_reducible refine Gd_d ?_ ?_) <;> intro hb hb2 <;> first | contradiction | (exfalso; omega) | (refine zH hb2 ?_; try clear hb2))
  | ((with_reducible refine Gd_b ?_ ?_) <;> intro hb <;> first | contradiction | refine zH hb ?_)
  | ((with_reducible refine Res_id ?_); refine zS ?_)
  | ((with_reducible refine awp_drawnC ?_ ?_); rfl; refine zS ?_)
  | ((with_reducible refine awp_drawnA ?_ ?_); rfl; refine zS ?_)
  | ((with_reducible refine CGd_nd ?_ ?_) <;> intro hb hb2 <;> first | contradiction | (exfalso; omega) | (refine zH hb2 ?_; try clear hb2))
  | ((with_reducible refine CGd_nb ?_ ?_) <;> intro hb <;> first | contradiction | refine zH hb ?_)
  | ((with_reducible refine CGd_d ?_ ?_) <;> intro hb hb2 <;> first | contradiction | (exfalso; omega) | (refine zH hb2 ?_; try clear hb2))
  | ((with_reducible refine CGd_b ?_ ?_) <;> intro hb <;> first | contradiction | refine zH hb ?_)
  | ((with_reducible refine CRes_id ?_); refine zS ?_)
  | ((with_reducible refine DStep_id ?_); refine zdP ?_; refine ⟨_, by first | exact digit_ok _ | fail, fun _ => rfl, fun _ => rfl, rfl, (fun h => by first | cases h | fail), ?_⟩; try refine zS ?_)
  | ((with_reducible refine DStep_id ?_); refine zdW ?_; refine ⟨_, by first | exact digit_ok _ | fail, fun _ => rfl, fun _ => rfl, rfl, ?_⟩; try refine zS ?_)
  | ((with_reducible refine AWP_c ?_); refine zcdT ?_)
  | ((with_reducible refine AWP_c ?_); refine zcdF ?_)
  | ((with_reducible refine AWP_c ?_); refine zcdN ?_ ?_ <;> intro hb hb2 <;> first | contradiction | (exfalso; omega) | ((try refine zH hb2 ?_); try clear hb2))
  | ((with_reducible refine AWP_c ?_); refine zcdD ?_ ?_ <;> intro hb hb2 <;> first | contradiction | (exfalso; omega) | ((try refine zH hb2 ?_); try clear hb2))
  | ((with_reducible refine AWP_c ?_); refine zcdM ?_ ?_ <;> intro hb <;> first | contradiction | (try refine zH hb ?_))
  | ((with_reducible refine AWP_c ?_); refine zcdB ?_ ?_ <;> intro hb <;> first | contradiction | (try refine zH hb ?_))
  | ((with_reducible refine awp_ret ?_); refine fin_r ?_)
  | ((with_reducible refine awp_ret ?_); refine fin_q ?_ ?_)
  | with_reducible refine fin_qn ?_ ?_
  | ((with_reducible refine awp_skip ?_); refine zS ?_)
  | with_reducible refine awp_block ?_
  | ((with_reducible refine awp_exit ?_); refine zS ?_)
  | ((with_reducible refine CallK_id ?_); refine zcF ?_; refine ⟨_, by first | exact digit_ok _ | fail, fun _ => rfl, fun _ => rfl, rfl, ?_⟩; try refine zS ?_)
  | exact True.intro
  | fail
  all_goals (simp [go_sem, joinedF, *])
theorem rjoined_ok (c : Int) : AFn env 38 [aU c] [] (aB (joinedF c)) [] := by
  refine afn_body Tryd.func38 rfl (by decide) ?_
  simp only [Tryd.ntmps38, Tryd.results38, List.length_cons, List.length_nil, List.cons_append, List.nil_append, Nat.reduceAdd, Nat.reduceSub, List.replicate]
  repeat' first
  | with_reducible refine awp_seq ?_
  | ((with_reducible refine awp_region ?_); refine zS ?_)
  | ((with_reducible refine Gd_nd ?_ ?_) <;> intro hb hb2 <;> first | contradiction | (exfalso; omega) | (refine zH hb2 ?_; try clear hb2))
  | ((with_reducible refine Gd_nb ?_ ?_) <;> intro hb <;> first | contradiction | refine zH hb ?_)
  | ((with_reducible refine Gd_d ?_ ?_) <;> intro hb hb2 <;> first | contradiction | (exfalso; omega) | (refine zH hb2 ?_; try clear hb2))
  | ((with_reducible refine Gd_b ?_ ?_) <;> intro hb <;> first | contradiction | refine zH hb ?_)
  | ((with_reducible refine Res_id ?_); refine zS ?_)
  | ((with_reducible refine awp_drawnC ?_ ?_); rfl; refine zS ?_)
  | ((with_reducible refine awp_drawnA ?_ ?_); rfl; refine zS ?_)
  | ((with_reducible refine CGd_nd ?_ ?_) <;> intro hb hb2 <;> first | contradiction | (exfalso; omega) | (refine zH hb2 ?_; try clear hb2))
  | ((with_reducible refine CGd_nb ?_ ?_) <;> intro hb <;> first | contradiction | refine zH hb ?_)
  | ((with_reducible refine CGd_d ?_ ?_) <;> intro hb hb2 <;> first | contradiction | (exfalso; omega) | (refine zH hb2 ?_; try clear hb2))
  | ((with_reducible refine CGd_b ?_ ?_) <;> intro hb <;> first | contradiction | refine zH hb ?_)
  | ((with_reducible refine CRes_id ?_); refine zS ?_)
  | ((with_reducible refine DStep_id ?_); refine zdP ?_; refine ⟨_, by first | exact digit_ok _ | fail, fun _ => rfl, fun _ => rfl, rfl, (fun h => by first | cases h | fail), ?_⟩; try refine zS ?_)
  | ((with_reducible refine DStep_id ?_); refine zdW ?_; refine ⟨_, by first | exact digit_ok _ | fail, fun _ => rfl, fun _ => rfl, rfl, ?_⟩; try refine zS ?_)
  | ((with_reducible refine AWP_c ?_); refine zcdT ?_)
  | ((with_reducible refine AWP_c ?_); refine zcdF ?_)
  | ((with_reducible refine AWP_c ?_); refine zcdN ?_ ?_ <;> intro hb hb2 <;> first | contradiction | (exfalso; omega) | ((try refine zH hb2 ?_); try clear hb2))
  | ((with_reducible refine AWP_c ?_); refine zcdD ?_ ?_ <;> intro hb hb2 <;> first | contradiction | (exfalso; omega) | ((try refine zH hb2 ?_); try clear hb2))
  | ((with_reducible refine AWP_c ?_); refine zcdM ?_ ?_ <;> intro hb <;> first | contradiction | (try refine zH hb ?_))
  | ((with_reducible refine AWP_c ?_); refine zcdB ?_ ?_ <;> intro hb <;> first | contradiction | (try refine zH hb ?_))
  | ((with_reducible refine awp_ret ?_); refine fin_r ?_)
  | ((with_reducible refine awp_ret ?_); refine fin_q ?_ ?_)
  | with_reducible refine fin_qn ?_ ?_
  | ((with_reducible refine awp_skip ?_); refine zS ?_)
  | with_reducible refine awp_block ?_
  | ((with_reducible refine awp_exit ?_); refine zS ?_)
  | ((with_reducible refine CallK_id ?_); refine zcF ?_; refine ⟨_, by first | exact digit_ok _ | fail, fun _ => rfl, fun _ => rfl, rfl, ?_⟩; try refine zS ?_)
  | exact True.intro
  | fail
  all_goals (simp [go_sem, joinedF, digitF, *])
  all_goals omega
def pfx (s p : Str) : Bool := decide (p <+: s)
theorem pfx_len {s p : Str} (h : p <+: s) : p.length ≤ s.length := h.length_le
theorem hasPrefix0_ok (s p : Str) : AFn env 67 [aS s, aS p] [] (aB (pfx s p)) [] := by
  refine afn_body Tryd.func67 rfl (by decide) ?_
  simp only [Tryd.ntmps67, Tryd.results67, List.length_cons, List.length_nil, List.cons_append, List.nil_append, Nat.reduceAdd, Nat.reduceSub, List.replicate]
  repeat' first
  | with_reducible refine awp_seq ?_
  | ((with_reducible refine awp_region ?_); refine zS ?_)
  | ((with_reducible refine Gd_nd ?_ ?_) <;> intro hb hb2 <;> first | contradiction | (exfalso; omega) | (refine zH hb2 ?_; try clear hb2))
  | ((with_reducible refine Gd_nb ?_ ?_) <;> intro hb <;> first | contradiction | refine zH hb ?_)
  | ((with_reducible refine Gd_d ?_ ?_) <;> intro hb hb2 <;> first | contradiction | (exfalso; omega) | (refine zH hb2 ?_; try clear hb2))
  | ((with_reducible refine Gd_b ?_ ?_) <;> intro hb <;> first | contradiction | refine zH hb ?_)
  | ((with_reducible refine Res_id ?_); refine zS ?_)
  | ((with_reducible refine awp_drawnC ?_ ?_); rfl; refine zS ?_)
  | ((with_reducible refine awp_drawnA ?_ ?_); rfl; refine zS ?_)
  | ((with_reducible refine CGd_nd ?_ ?_) <;> intro hb hb2 <;> first | contradiction | (exfalso; omega) | (refine zH hb2 ?_; try clear hb2))
  | ((with_reducible refine CGd_nb ?_ ?_) <;> intro hb <;> first | contradiction | refine zH hb ?_)
  | ((with_reducible refine CGd_d ?_ ?_) <;> intro hb hb2 <;> first | contradiction | (exfalso; omega) | (refine zH hb2 ?_; try clear hb2))
  | ((with_reducible refine CGd_b ?_ ?_) <;> intro hb <;> first | contradiction | refine zH hb ?_)
  | ((with_reducible refine CRes_id ?_); refine zS ?_)
  | ((with_reducible refine DStep_id ?_); refine zdP ?_; refine ⟨_, by first | exact digit_ok _ | fail, fun _ => rfl, fun _ => rfl, rfl, (fun h => by first | cases h | fail), ?_⟩; try refine zS ?_)
  | ((with_reducible refine DStep_id ?_); refine zdW ?_; refine ⟨_, by first | exact digit_ok _ | fail, fun _ => rfl, fun _ => rfl, rfl, ?_⟩; try refine zS ?_)
  | ((with_reducible refine AWP_c ?_); refine zcdT ?_)
  | ((with_reducible refine AWP_c ?_); refine zcdF ?_)
  | ((with_reducible refine AWP_c ?_); refine zcdN ?_ ?_ <;> intro hb hb2 <;> first | contradiction | (exfalso; omega) | ((try refine zH hb2 ?_); try clear hb2))
  | ((with_reducible refine AWP_c ?_); refine zcdD ?_ ?_ <;> intro hb hb2 <;> first | contradiction | (exfalso; omega) | ((try refine zH hb2 ?_); try clear hb2))
  | ((with_reducible refine AWP_c ?_); refine zcdM ?_ ?_ <;> intro hb <;> first | contradiction | (try refine zH hb ?_))
  | ((with_reducible refine AWP_c ?_); refine zcdB ?_ ?_ <;> intro hb <;> first | contradiction | (try refine zH hb ?_))
  | ((with_reducible refine awp_ret ?_); refine fin_r ?_)
  | ((with_reducible refine awp_ret ?_); refine fin_q ?_ ?_)
  | with_reducible refine fin_qn ?_ ?_
  | ((with_reducible refine awp_skip ?_); refine zS ?_)
  | with_reducible refine awp_block ?_
  | ((with_reducible refine awp_exit ?_); refine zS ?_)
  | ((with_reducible refine CallK_id ?_); refine zcF ?_; refine ⟨_, by first | exact digit_ok _ | fail, fun _ => rfl, fun _ => rfl, rfl, ?_⟩; try refine zS ?_)
  | exact True.intro
  | fail
  · simp [go_sem, pfx, subL_n, List.prefix_iff_eq_take, eq_comm]
  · have : ¬ p <+: s := fun h => by have := pfx_len h; omega
    simp [go_sem, pfx, this]
theorem hasPrefix_ok (s p : Str) : AFn env 37 [aS s, aS p] [] (aB (pfx s p)) [] := by
  refine afn_body Tryd.func37 rfl (by decide) ?_
  simp only [Tryd.ntmps37, Tryd.results37, List.length_cons, List.length_nil, List.cons_append, List.nil_append, Nat.reduceAdd, Nat.reduceSub, List.replicate]
  repeat' first
  | with_reducible refine awp_seq ?_
  | ((with_reducible refine awp_region ?_); refine zS ?_)
  | ((with_reducible refine Gd_nd ?_ ?_) <;> intro hb hb2 <;> first | contradiction | (exfalso; omega) | (refine zH hb2 ?_; try clear hb2))
  | ((with_reducible refine Gd_nb ?_ ?_) <;> intro hb <;> first | contradiction | refine zH hb ?_)
  | ((with_reducible refine Gd_d ?_ ?_) <;> intro hb hb2 <;> first | contradiction | (exfalso; omega) | (refine zH hb2 ?_; try clear hb2))
  | ((with_reducible refine Gd_b ?_ ?_) <;> intro hb <;> first | contradiction | refine zH hb ?_)
  | ((with_reducible refine Res_id ?_); refine zS ?_)
  | ((with_reducible refine awp_drawnC ?_ ?_); rfl; refine zS ?_)
  | ((with_reducible refine awp_drawnA ?_ ?_); rfl; refine zS ?_)
  | ((with_reducible refine CGd_nd ?_ ?_) <;> intro hb hb2 <;> first | contradiction | (exfalso; omega) | (refine zH hb2 ?_; try clear hb2))
  | ((with_reducible refine CGd_nb ?_ ?_) <;> intro hb <;> first | contradiction | refine zH hb ?_)
  | ((with_reducible refine CGd_d ?_ ?_) <;> intro hb hb2 <;> first | contradiction | (exfalso; omega) | (refine zH hb2 ?_; try clear hb2))
  | ((with_reducible refine CGd_b ?_ ?_) <;> intro hb <;> first | contradiction | refine zH hb ?_)
  | ((with_reducible refine CRes_id ?_); refine zS ?_)
  | ((with_reducible refine DStep_id ?_); refine zdP ?_; refine ⟨_, by first | exact hasPrefix0_ok _ _ | fail, fun _ => rfl, fun _ => rfl, rfl, (fun h => by first | cases h | fail), ?_⟩; try refine zS ?_)
  | ((with_reducible refine DStep_id ?_); refine zdW ?_; refine ⟨_, by first | exact hasPrefix0_ok _ _ | fail, fun _ => rfl, fun _ => rfl, rfl, ?_⟩; try refine zS ?_)
  | ((with_reducible refine AWP_c ?_); refine zcdT ?_)
  | ((with_reducible refine AWP_c ?_); refine zcdF ?_)
  | ((with_reducible refine AWP_c ?_); refine zcdN ?_ ?_ <;> intro hb hb2 <;> first | contradiction | (exfalso; omega) | ((try refine zH hb2 ?_); try clear hb2))
  | ((with_reducible refine AWP_c ?_); refine zcdD ?_ ?_ <;> intro hb hb2 <;> first | contradiction | (exfalso; omega) | ((try refine zH hb2 ?_); try clear hb2))
  | ((with_reducible refine AWP_c ?_); refine zcdM ?_ ?_ <;> intro hb <;> first | contradiction | (try refine zH hb ?_))
  | ((with_reducible refine AWP_c ?_); refine zcdB ?_ ?_ <;> intro hb <;> first | contradiction | (try refine zH hb ?_))
  | ((with_reducible refine awp_ret ?_); refine fin_r ?_)
  | ((with_reducible refine awp_ret ?_); refine fin_q ?_ ?_)
  | with_reducible refine fin_qn ?_ ?_
  | ((with_reducible refine awp_skip ?_); refine zS ?_)
  | with_reducible refine awp_block ?_
  | ((with_reducible refine awp_exit ?_); refine zS ?_)
  | ((with_reducible refine CallK_id ?_); refine zcF ?_; refine ⟨_, by first | exact hasPrefix0_ok _ _ | fail, fun _ => rfl, fun _ => rfl, rfl, ?_⟩; try refine zS ?_)
  | exact True.intro
  | fail
  all_goals rfl
theorem cutPrefix0_ok (s p : Str) : AFn env 80 [aS s, aS p] [] (.tup [aS (if pfx s p = true then s.drop p.length else s), aB (pfx s p)]) [] := by
  refine afn_body Tryd.func80 rfl (by decide) ?_
  simp only [Tryd.ntmps80, Tryd.results80, List.length_cons, List.length_nil, List.cons_append, List.nil_append, Nat.reduceAdd, Nat.reduceSub, List.replicate]
  repeat' first
  | with_reducible refine awp_seq ?_
  | ((with_reducible refine awp_region ?_); refine zS ?_)
  | ((with_reducible refine Gd_nd ?_ ?_) <;> intro hb hb2 <;> first | contradiction | (exfalso; omega) | (refine zH hb2 ?_; try clear hb2))
  | ((with_reducible refine Gd_nb ?_ ?_) <;> intro hb <;> first | contradiction | refine zH hb ?_)
  | ((with_reducible refine Gd_d ?_ ?_) <;> intro hb hb2 <;> first | contradiction | (exfalso; omega) | (refine zH hb2 ?_; try clear hb2))
  | ((with_reducible refine Gd_b ?_ ?_) <;> intro hb <;> first | contradiction | refine zH hb ?_)
  | ((with_reducible refine Res_id ?_); refine zS ?_)
  | ((with_reducible refine awp_drawnC ?_ ?_); rfl; refine zS ?_)
  | ((with_reducible refine awp_drawnA ?_ ?_); rfl; refine zS ?_)
  | ((with_reducible refine CGd_nd ?_ ?_) <;> intro hb hb2 <;> first | contradiction | (exfalso; omega) | (refine zH hb2 ?_; try clear hb2))
  | ((with_reducible refine CGd_nb ?_ ?_) <;> intro hb <;> first | contradiction | refine zH hb ?_)
  | ((with_reducible refine CGd_d ?_ ?_) <;> intro hb hb2 <;> first | contradiction | (exfalso; omega) | (refine zH hb2 ?_; try clear hb2))
  | ((with_reducible refine CGd_b ?_ ?_) <;> intro hb <;> first | contradiction | refine zH hb ?_)
  | ((with_reducible refine CRes_id ?_); refine zS ?_)
  | ((with_reducible refine DStep_id ?_); refine zdP ?_; refine ⟨_, by first | exact hasPrefix0_ok _ _ | fail, fun _ => rfl, fun _ => rfl, rfl, (fun h => by first | cases h | fail), ?_⟩; try refine zS ?_)
  | ((with_reducible refine DStep_id ?_); refine zdW ?_; refine ⟨_, by first | exact hasPrefix0_ok _ _ | fail, fun _ => rfl, fun _ => rfl, rfl, ?_⟩; try refine zS ?_)
  | ((with_reducible refine AWP_c ?_); refine zcdT ?_)
  | ((with_reducible refine AWP_c ?_); refine zcdF ?_)
  | ((with_reducible refine AWP_c ?_); refine zcdN ?_ ?_ <;> intro hb hb2 <;> first | contradiction | (exfalso; omega) | ((try refine zH hb2 ?_); try clear hb2))
  | ((with_reducible refine AWP_c ?_); refine zcdD ?_ ?_ <;> intro hb hb2 <;> first | contradiction | (exfalso; omega) | ((try refine zH hb2 ?_); try clear hb2))
  | ((with_reducible refine AWP_c ?_); refine zcdM ?_ ?_ <;> intro hb <;> first | contradiction | (try refine zH hb ?_))
  | ((with_reducible refine AWP_c ?_); refine zcdB ?_ ?_ <;> intro hb <;> first | contradiction | (try refine zH hb ?_))
  | ((with_reducible refine awp_ret ?_); refine fin_r ?_)
  | ((with_reducible refine awp_ret ?_); refine fin_q ?_ ?_)
  | with_reducible refine fin_qn ?_ ?_
  | ((with_reducible refine awp_skip ?_); refine zS ?_)
  | with_reducible refine awp_block ?_
  | ((with_reducible refine awp_exit ?_); refine zS ?_)
  | ((with_reducible refine CallK_id ?_); refine zcF ?_; refine ⟨_, by first | exact hasPrefix0_ok _ _ | fail, fun _ => rfl, fun _ => rfl, rfl, ?_⟩; try refine zS ?_)
  | exact True.intro
  | fail
  · simp [go_sem, pfx, hb]
  have := pfx_len hb
  repeat' first
  | with_reducible refine awp_seq ?_
  | ((with_reducible refine awp_region ?_); refine zS ?_)
  | ((with_reducible refine Gd_nd ?_ ?_) <;> intro hb hb2 <;> first | contradiction | (exfalso; omega) | (refine zH hb2 ?_; try clear hb2))
  | ((with_reducible refine Gd_nb ?_ ?_) <;> intro hb <;> first | contradiction | refine zH hb ?_)
  | ((with_reducible refine Gd_d ?_ ?_) <;> intro hb hb2 <;> first | contradiction | (exfalso; omega) | (refine zH hb2 ?_; try clear hb2))
  | ((with_reducible refine Gd_b ?_ ?_) <;> intro hb <;> first | contradiction | refine zH hb ?_)
  | ((with_reducible refine Res_id ?_); refine zS ?_)
  | ((with_reducible refine awp_drawnC ?_ ?_); rfl; refine zS ?_)
  | ((with_reducible refine awp_drawnA ?_ ?_); rfl; refine zS ?_)
  | ((with_reducible refine CGd_nd ?_ ?_) <;> intro hb hb2 <;> first | contradiction | (exfalso; omega) | (refine zH hb2 ?_; try clear hb2))
  | ((with_reducible refine CGd_nb ?_ ?_) <;> intro hb <;> first | contradiction | refine zH hb ?_)
  | ((with_reducible refine CGd_d ?_ ?_) <;> intro hb hb2 <;> first | contradiction | (exfalso; omega) | (refine zH hb2 ?_; try clear hb2))
  | ((with_reducible refine CGd_b ?_ ?_) <;> intro hb <;> first | contradiction | refine zH hb ?_)
  | ((with_reducible refine CRes_id ?_); refine zS ?_)
  | ((with_reducible refine DStep_id ?_); refine zdP ?_; refine ⟨_, by first | exact hasPrefix0_ok _ _ | fail, fun _ => rfl, fun _ => rfl, rfl, (fun h => by first | cases h | fail), ?_⟩; try refine zS ?_)
  | ((with_reducible refine DStep_id ?_); refine zdW ?_; refine ⟨_, by first | exact hasPrefix0_ok _ _ | fail, fun _ => rfl, fun _ => rfl, rfl, ?_⟩; try refine zS ?_)
  | ((with_reducible refine AWP_c ?_); refine zcdT ?_)
  | ((with_reducible refine AWP_c ?_); refine zcdF ?_)
  | ((with_reducible refine AWP_c ?_); refine zcdN ?_ ?_ <;> intro hb hb2 <;> first | contradiction | (exfalso; omega) | ((try refine zH hb2 ?_); try clear hb2))
  | ((with_reducible refine AWP_c ?_); refine zcdD ?_ ?_ <;> intro hb hb2 <;> first | contradiction | (exfalso; omega) | ((try refine zH hb2 ?_); try clear hb2))
  | ((with_reducible refine AWP_c ?_); refine zcdM ?_ ?_ <;> intro hb <;> first | contradiction | (try refine zH hb ?_))
  | ((with_reducible refine AWP_c ?_); refine zcdB ?_ ?_ <;> intro hb <;> first | contradiction | (try refine zH hb ?_))
  | ((with_reducible refine awp_ret ?_); refine fin_r ?_)
  | ((with_reducible refine awp_ret ?_); refine fin_q ?_ ?_)
  | with_reducible refine fin_qn ?_ ?_
  | ((with_reducible refine awp_skip ?_); refine zS ?_)
  | with_reducible refine awp_block ?_
  | ((with_reducible refine awp_exit ?_); refine zS ?_)
  | ((with_reducible refine CallK_id ?_); refine zcF ?_; refine ⟨_, by first | exact hasPrefix0_ok _ _ | fail, fun _ => rfl, fun _ => rfl, rfl, ?_⟩; try refine zS ?_)
  | exact True.intro
  | fail
  simp [go_sem, pfx, hb, subL_l]
theorem cutPrefix_ok (s p : Str) : AFn env 65 [aS s, aS p] [] (.tup [aS (if pfx s p = true then s.drop p.length else s), aB (pfx s p)]) [] := by
  refine afn_body Tryd.func65 rfl (by decide) ?_
  simp only [Tryd.ntmps65, Tryd.results65, List.length_cons, List.length_nil, List.cons_append, List.nil_append, Nat.reduceAdd, Nat.reduceSub, List.replicate]
  repeat' first
  | with_reducible refine awp_seq ?_
  | ((with_reducible refine awp_region ?_); refine zS ?_)
  | ((with_reducible refine Gd_nd ?_ ?_) <;> intro hb hb2 <;> first | contradiction | (exfalso; omega) | (refine zH hb2 ?_; try clear hb2))
  | ((with_reducible refine Gd_nb ?_ ?_) <;> intro hb <;> first | contradiction | refine zH hb ?_)
  | ((with_reducible refine Gd_d ?_ ?_) <;> intro hb hb2 <;> first | contradiction | (exfalso; omega) | (refine zH hb2 ?_; try clear hb2))
  | ((with_reducible refine Gd_b ?_ ?_) <;> intro hb <;> first | contradiction | refine zH hb ?_)
  | ((with_reducible refine Res_id ?_); refine zS ?_)
  | ((with_reducible refine awp_drawnC ?_ ?_); rfl; refine zS ?_)
  | ((with_reducible refine awp_drawnA ?_ ?_); rfl; refine zS ?_)
  | ((with_reducible refine CGd_nd ?_ ?_) <;> intro hb hb2 <;> first | contradiction | (exfalso; omega) | (refine zH hb2 ?_; try clear hb2))
  | ((with_reducible refine CGd_nb ?_ ?_) <;> intro hb <;> first | contradiction | refine zH hb ?_)
  | ((with_reducible refine CGd_d ?_ ?_) <;> intro hb hb2 <;> first | contradiction | (exfalso; omega) | (refine zH hb2 ?_; try clear hb2))
  | ((with_reducible refine CGd_b ?_ ?_) <;> intro hb <;> first | contradiction | refine zH hb ?_)
  | ((with_reducible refine CRes_id ?_); refine zS ?_)
  | ((with_reducible refine DStep_id ?_); refine zdP ?_; refine ⟨_, by first | exact cutPrefix0_ok _ _ | fail, fun _ => rfl, fun _ => rfl, rfl, (fun h => by first | cases h | fail), ?_⟩; try refine zS ?_)
  | ((with_reducible refine DStep_id ?_); refine zdW ?_; refine ⟨_, by first | exact cutPrefix0_ok _ _ | fail, fun _ => rfl, fun _ => rfl, rfl, ?_⟩; try refine zS ?_)
  | ((with_reducible refine AWP_c ?_); refine zcdT ?_)
  | ((with_reducible refine AWP_c ?_); refine zcdF ?_)
  | ((with_reducible refine AWP_c ?_); refine zcdN ?_ ?_ <;> intro hb hb2 <;> first | contradiction | (exfalso; omega) | ((try refine zH hb2 ?_); try clear hb2))
  | ((with_reducible refine AWP_c ?_); refine zcdD ?_ ?_ <;> intro hb hb2 <;> first | contradiction | (exfalso; omega) | ((try refine zH hb2 ?_); try clear hb2))
  | ((with_reducible refine AWP_c ?_); refine zcdM ?_ ?_ <;> intro hb <;> first | contradiction | (try refine zH hb ?_))
  | ((with_reducible refine AWP_c ?_); refine zcdB ?_ ?_ <;> intro hb <;> first | contradiction | (try refine zH hb ?_))
  | ((with_reducible refine awp_ret ?_); refine fin_r ?_)
  | ((with_reducible refine awp_ret ?_); refine fin_q ?_ ?_)
  | with_reducible refine fin_qn ?_ ?_
  | ((with_reducible refine awp_skip ?_); refine zS ?_)
  | with_reducible refine awp_block ?_
  | ((with_reducible refine awp_exit ?_); refine zS ?_)
  | ((with_reducible refine CallK_id ?_); refine zcF ?_; refine ⟨_, by first | exact cutPrefix0_ok _ _ | fail, fun _ => rfl, fun _ => rfl, rfl, ?_⟩; try refine zS ?_)
  | exact True.intro
  | fail
  all_goals rfl
theorem bad_ok (i : Int) : AFn env 28 [aI i] [] (.agg [.d (dI 0), .d (dI 0), .d (.fz []), .d (dI 0), .d (dI i)]) [] := by
  refine afn_body Tryd.func28 rfl (by decide) ?_
  simp only [Tryd.ntmps28, Tryd.results28, List.length_cons, List.length_nil, List.cons_append, List.nil_append, Nat.reduceAdd, Nat.reduceSub, List.replicate]
  repeat' first
  | with_reducible refine awp_seq ?_
  | ((with_reducible refine awp_region ?_); refine zS ?_)
  | ((with_reducible refine Gd_nd ?_ ?_) <;> intro hb hb2 <;> first | contradiction | (exfalso; omega) | (refine zH hb2 ?_; try clear hb2))
  | ((with_reducible refine Gd_nb ?_ ?_) <;> intro hb <;> first | contradiction | refine zH hb ?_)
  | ((with_reducible refine Gd_d ?_ ?_) <;> intro hb hb2 <;> first | contradiction | (exfalso; omega) | (refine zH hb2 ?_; try clear hb2))
  | ((with_reducible refine Gd_b ?_ ?_) <;> intro hb <;> first | contradiction | refine zH hb ?_)
  | ((with_reducible refine Res_id ?_); refine zS ?_)
  | ((with_reducible refine awp_drawnC ?_ ?_); rfl; refine zS ?_)
  | ((with_reducible refine awp_drawnA ?_ ?_); rfl; refine zS ?_)
  | ((with_reducible refine CGd_nd ?_ ?_) <;> intro hb hb2 <;> first | contradiction | (exfalso; omega) | (refine zH hb2 ?_; try clear hb2))
  | ((with_reducible refine CGd_nb ?_ ?_) <;> intro hb <;> first | contradiction | refine zH hb ?_)
  | ((with_reducible refine CGd_d ?_ ?_) <;> intro hb hb2 <;> first | contradiction | (exfalso; omega) | (refine zH hb2 ?_; try clear hb2))
  | ((with_reducible refine CGd_b ?_ ?_) <;> intro hb <;> first | contradiction | refine zH hb ?_)
  | ((with_reducible refine CRes_id ?_); refine zS ?_)
  | ((with_reducible refine DStep_id ?_); refine zdP ?_; refine ⟨_, by first | exact cutPrefix0_ok _ _ | fail, fun _ => rfl, fun _ => rfl, rfl, (fun h => by first | cases h | fail), ?_⟩; try refine zS ?_)
  | ((with_reducible refine DStep_id ?_); refine zdW ?_; refine ⟨_, by first | exact cutPrefix0_ok _ _ | fail, fun _ => rfl, fun _ => rfl, rfl, ?_⟩; try refine zS ?_)
  | ((with_reducible refine AWP_c ?_); refine zcdT ?_)
  | ((with_reducible refine AWP_c ?_); refine zcdF ?_)
  | ((with_reducible refine AWP_c ?_); refine zcdN ?_ ?_ <;> intro hb hb2 <;> first | contradiction | (exfalso; omega) | ((try refine zH hb2 ?_); try clear hb2))
  | ((with_reducible refine AWP_c ?_); refine zcdD ?_ ?_ <;> intro hb hb2 <;> first | contradiction | (exfalso; omega) | ((try refine zH hb2 ?_); try clear hb2))
  | ((with_reducible refine AWP_c ?_); refine zcdM ?_ ?_ <;> intro hb <;> first | contradiction | (try refine zH hb ?_))
  | ((with_reducible refine AWP_c ?_); refine zcdB ?_ ?_ <;> intro hb <;> first | contradiction | (try refine zH hb ?_))
  | ((with_reducible refine awp_ret ?_); refine fin_r ?_)
  | ((with_reducible refine awp_ret ?_); refine fin_q ?_ ?_)
  | with_reducible refine fin_qn ?_ ?_
  | ((with_reducible refine awp_skip ?_); refine zS ?_)
  | with_reducible refine awp_block ?_
  | ((with_reducible refine awp_exit ?_); refine zS ?_)
  | ((with_reducible refine CallK_id ?_); refine zcF ?_; refine ⟨_, by first | exact cutPrefix0_ok _ _ | fail, fun _ => rfl, fun _ => rfl, rfl, ?_⟩; try refine zS ?_)
  | exact True.intro
  | fail
  all_goals rfl
theorem kids_ok (i : Int) : AFn env 83 [aI i] [] (aI (if i < 3 then 0 else if i < 5 then 1 else 2)) [] := by
  refine afn_body Tryd.func83 rfl (by decide) ?_
  simp only [Tryd.ntmps83, Tryd.results83, List.length_cons, List.length_nil, List.cons_append, List.nil_append, Nat.reduceAdd, Nat.reduceSub, List.replicate]
  repeat' first
  | with_reducible refine awp_seq ?_
  | ((with_reducible refine awp_region ?_); refine zS ?_)
  | ((with_reducible refine Gd_nd ?_ ?_) <;> intro hb hb2 <;> first | contradiction | (exfalso; omega) | (refine zH hb2 ?_; try clear hb2))
  | ((with_reducible refine Gd_nb ?_ ?_) <;> intro hb <;> first | contradiction | refine zH hb ?_)
  | ((with_reducible refine Gd_d ?_ ?_) <;> intro hb hb2 <;> first | contradiction | (exfalso; omega) | (refine zH hb2 ?_; try clear hb2))
  | ((with_reducible refine Gd_b ?_ ?_) <;> intro hb <;> first | contradiction | refine zH hb ?_)
  | ((with_reducible refine Res_id ?_); refine zS ?_)
  | ((with_reducible refine awp_drawnC ?_ ?_); rfl; refine zS ?_)
  | ((with_reducible refine awp_drawnA ?_ ?_); rfl; refine zS ?_)
  | ((with_reducible refine CGd_nd ?_ ?_) <;> intro hb hb2 <;> first | contradiction | (exfalso; omega) | (refine zH hb2 ?_; try clear hb2))
  | ((with_reducible refine CGd_nb ?_ ?_) <;> intro hb <;> first | contradiction | refine zH hb ?_)
  | ((with_reducible refine CGd_d ?_ ?_) <;> intro hb hb2 <;> first | contradiction | (exfalso; omega) | (refine zH hb2 ?_; try clear hb2))
  | ((with_reducible refine CGd_b ?_ ?_) <;> intro hb <;> first | contradiction | refine zH hb ?_)
  | ((with_reducible refine CRes_id ?_); refine zS ?_)
  | ((with_reducible refine DStep_id ?_); refine zdP ?_; refine ⟨_, by first | exact cutPrefix0_ok _ _ | fail, fun _ => rfl, fun _ => rfl, rfl, (fun h => by first | cases h | fail), ?_⟩; try refine zS ?_)
  | ((with_reducible refine DStep_id ?_); refine zdW ?_; refine ⟨_, by first | exact cutPrefix0_ok _ _ | fail, fun _ => rfl, fun _ => rfl, rfl, ?_⟩; try refine zS ?_)
  | ((with_reducible refine AWP_c ?_); refine zcdT ?_)
  | ((with_reducible refine AWP_c ?_); refine zcdF ?_)
  | ((with_reducible refine AWP_c ?_); refine zcdN ?_ ?_ <;> intro hb hb2 <;> first | contradiction | (exfalso; omega) | ((try refine zH hb2 ?_); try clear hb2))
  | ((with_reducible refine AWP_c ?_); refine zcdD ?_ ?_ <;> intro hb hb2 <;> first | contradiction | (exfalso; omega) | ((try refine zH hb2 ?_); try clear hb2))
  | ((with_reducible refine AWP_c ?_); refine zcdM ?_ ?_ <;> intro hb <;> first | contradiction | (try refine zH hb ?_))
  | ((with_reducible refine AWP_c ?_); refine zcdB ?_ ?_ <;> intro hb <;> first | contradiction | (try refine zH hb ?_))
  | ((with_reducible refine awp_ret ?_); refine fin_r ?_)
  | ((with_reducible refine awp_ret ?_); refine fin_q ?_ ?_)
  | with_reducible refine fin_qn ?_ ?_
  | ((with_reducible refine awp_skip ?_); refine zS ?_)
  | with_reducible refine awp_block ?_
  | ((with_reducible refine awp_exit ?_); refine zS ?_)
  | ((with_reducible refine CallK_id ?_); refine zcF ?_; refine ⟨_, by first | exact cutPrefix0_ok _ _ | fail, fun _ => rfl, fun _ => rfl, rfl, ?_⟩; try refine zS ?_)
  | exact True.intro
  | fail
  all_goals simp [go_sem, *]
theorem is_ok (l : List Tok) (i : Int) (h : 0 ≤ i) (s : Str) : AFn env 48 [aF (l.map Tok.row), aI i, aS s] [] (aB (decide (i < l.length) && decide ((gt l i.toNat).text = s))) [] := by
  refine afn_body Tryd.func48 rfl (by decide) ?_
  simp only [Tryd.ntmps48, Tryd.results48, List.length_cons, List.length_nil, List.cons_append, List.nil_append, Nat.reduceAdd, Nat.reduceSub, List.replicate]
  repeat' first
  | with_reducible refine awp_seq ?_
  | ((with_reducible refine awp_region ?_); refine zS ?_)
  | ((with_reducible refine Gd_nd ?_ ?_) <;> intro hb hb2 <;> first | contradiction | (exfalso; omega) | (refine zH hb2 ?_; try clear hb2))
  | ((with_reducible refine Gd_nb ?_ ?_) <;> intro hb <;> first | contradiction | refine zH hb ?_)
  | ((with_reducible refine Gd_d ?_ ?_) <;> intro hb hb2 <;> first | contradiction | (exfalso; omega) | (refine zH hb2 ?_; try clear hb2))
  | ((with_reducible refine Gd_b ?_ ?_) <;> intro hb <;> first | contradiction | refine zH hb ?_)
  | ((with_reducible refine Res_id ?_); refine zS ?_)
  | ((with_reducible refine awp_drawnC ?_ ?_); rfl; refine zS ?_)
  | ((with_reducible refine awp_drawnA ?_ ?_); rfl; refine zS ?_)
  | ((with_reducible refine CGd_nd ?_ ?_) <;> intro hb hb2 <;> first | contradiction | (exfalso; omega) | (refine zH hb2 ?_; try clear hb2))
  | ((with_reducible refine CGd_nb ?_ ?_) <;> intro hb <;> first | contradiction | refine zH hb ?_)
  | ((with_reducible refine CGd_d ?_ ?_) <;> intro hb hb2 <;> first | contradiction | (exfalso; omega) | (refine zH hb2 ?_; try clear hb2))
  | ((with_reducible refine CGd_b ?_ ?_) <;> intro hb <;> first | contradiction | refine zH hb ?_)
  | ((with_reducible refine CRes_id ?_); refine zS ?_)
  | ((with_reducible refine DStep_id ?_); refine zdP ?_; refine ⟨_, by first | exact cutPrefix0_ok _ _ | fail, fun _ => rfl, fun _ => rfl, rfl, (fun h => by first | cases h | fail), ?_⟩; try refine zS ?_)
  | ((with_reducible refine DStep_id ?_); refine zdW ?_; refine ⟨_, by first | exact cutPrefix0_ok _ _ | fail, fun _ => rfl, fun _ => rfl, rfl, ?_⟩; try refine zS ?_)
  | ((with_reducible refine AWP_c ?_); refine zcdT ?_)
  | ((with_reducible refine AWP_c ?_); refine zcdF ?_)
  | ((with_reducible refine AWP_c ?_); refine zcdN ?_ ?_ <;> intro hb hb2 <;> first | contradiction | (exfalso; omega) | ((try refine zH hb2 ?_); try clear hb2))
  | ((with_reducible refine AWP_c ?_); refine zcdD ?_ ?_ <;> intro hb hb2 <;> first | contradiction | (exfalso; omega) | ((try refine zH hb2 ?_); try clear hb2))
  | ((with_reducible refine AWP_c ?_); refine zcdM ?_ ?_ <;> intro hb <;> first | contradiction | (try refine zH hb ?_))
  | ((with_reducible refine AWP_c ?_); refine zcdB ?_ ?_ <;> intro hb <;> first | contradiction | (try refine zH hb ?_))
  | ((with_reducible refine awp_ret ?_); refine fin_r ?_)
  | ((with_reducible refine awp_ret ?_); refine fin_q ?_ ?_)
  | with_reducible refine fin_qn ?_ ?_
  | ((with_reducible refine awp_skip ?_); refine zS ?_)
  | with_reducible refine awp_block ?_
  | ((with_reducible refine awp_exit ?_); refine zS ?_)
  | ((with_reducible refine CallK_id ?_); refine zcF ?_; refine ⟨_, by first | exact cutPrefix0_ok _ _ | fail, fun _ => rfl, fun _ => rfl, rfl, ?_⟩; try refine zS ?_)
  | exact True.intro
  | fail
  all_goals rfl
theorem two_ok (o : Int) (a b : T) : AFn env 52 [aI o, a.a, b.a] [] (T.mk o 0 [a, b]).a [] := by
  refine afn_body Tryd.func52 rfl (by decide) ?_
  simp only [Tryd.ntmps52, Tryd.results52, List.length_cons, List.length_nil, List.cons_append, List.nil_append, Nat.reduceAdd, Nat.reduceSub, List.replicate]
  repeat' first
  | with_reducible refine awp_seq ?_
  | ((with_reducible refine awp_region ?_); refine zS ?_)
  | ((with_reducible refine Gd_nd ?_ ?_) <;> intro hb hb2 <;> first | contradiction | (exfalso; omega) | (refine zH hb2 ?_; try clear hb2))
  | ((with_reducible refine Gd_nb ?_ ?_) <;> intro hb <;> first | contradiction | refine zH hb ?_)
  | ((with_reducible refine Gd_d ?_ ?_) <;> intro hb hb2 <;> first | contradiction | (exfalso; omega) | (refine zH hb2 ?_; try clear hb2))
  | ((with_reducible refine Gd_b ?_ ?_) <;> intro hb <;> first | contradiction | refine zH hb ?_)
  | ((with_reducible refine Res_id ?_); refine zS ?_)
  | ((with_reducible refine awp_drawnC ?_ ?_); rfl; refine zS ?_)
  | ((with_reducible refine awp_drawnA ?_ ?_); rfl; refine zS ?_)
  | ((with_reducible refine CGd_nd ?_ ?_) <;> intro hb hb2 <;> first | contradiction | (exfalso; omega) | (refine zH hb2 ?_; try clear hb2))
  | ((with_reducible refine CGd_nb ?_ ?_) <;> intro hb <;> first | contradiction | refine zH hb ?_)
  | ((with_reducible refine CGd_d ?_ ?_) <;> intro hb hb2 <;> first | contradiction | (exfalso; omega) | (refine zH hb2 ?_; try clear hb2))
  | ((with_reducible refine CGd_b ?_ ?_) <;> intro hb <;> first | contradiction | refine zH hb ?_)
  | ((with_reducible refine CRes_id ?_); refine zS ?_)
  | ((with_reducible refine DStep_id ?_); refine zdP ?_; refine ⟨_, by first | exact cutPrefix0_ok _ _ | fail, fun _ => rfl, fun _ => rfl, rfl, (fun h => by first | cases h | fail), ?_⟩; try refine zS ?_)
  | ((with_reducible refine DStep_id ?_); refine zdW ?_; refine ⟨_, by first | exact cutPrefix0_ok _ _ | fail, fun _ => rfl, fun _ => rfl, rfl, ?_⟩; try refine zS ?_)
  | ((with_reducible refine AWP_c ?_); refine zcdT ?_)
  | ((with_reducible refine AWP_c ?_); refine zcdF ?_)
  | ((with_reducible refine AWP_c ?_); refine zcdN ?_ ?_ <;> intro hb hb2 <;> first | contradiction | (exfalso; omega) | ((try refine zH hb2 ?_); try clear hb2))
  | ((with_reducible refine AWP_c ?_); refine zcdD ?_ ?_ <;> intro hb hb2 <;> first | contradiction | (exfalso; omega) | ((try refine zH hb2 ?_); try clear hb2))
  | ((with_reducible refine AWP_c ?_); refine zcdM ?_ ?_ <;> intro hb <;> first | contradiction | (try refine zH hb ?_))
  | ((with_reducible refine AWP_c ?_); refine zcdB ?_ ?_ <;> intro hb <;> first | contradiction | (try refine zH hb ?_))
  | ((with_reducible refine awp_ret ?_); refine fin_r ?_)
  | ((with_reducible refine awp_ret ?_); refine fin_q ?_ ?_)
  | with_reducible refine fin_qn ?_ ?_
  | ((with_reducible refine awp_skip ?_); refine zS ?_)
  | with_reducible refine awp_block ?_
  | ((with_reducible refine awp_exit ?_); refine zS ?_)
  | ((with_reducible refine CallK_id ?_); refine zcF ?_; refine ⟨_, by first | exact cutPrefix0_ok _ _ | fail, fun _ => rfl, fun _ => rfl, rfl, ?_⟩; try refine zS ?_)
  | exact True.intro
  | fail
  simp [go_sem, T.op, T.n, T.kids]
def opF (x : Str) (row : Int) : Int :=
  if row = 1 then (if x = [111, 114] then 14 else 0) else if row = 2 then (if x = [97, 110, 100] then 13 else 0)
  else if row = 5 then (if x = [43] then 5 else if x = [45] then 6 else 0)
  else if row = 6 then (if x = [42] then 7 else if x = [47] then 8 else if x = [37] then 9 else 0) else 0
theorem op_ok (x : Str) (row : Int) : AFn env 51 [aS x, aI row] [] (aI (opF x row)) [] := by
  refine afn_body Tryd.func51 rfl (by decide) ?_
  simp only [Tryd.ntmps51, Tryd.results51, List.length_cons, List.length_nil, List.cons_append, List.nil_append, Nat.reduceAdd, Nat.reduceSub, List.replicate]
  repeat' first
  | with_reducible refine awp_seq ?_
  | ((with_reducible refine awp_region ?_); refine zS ?_)
  | ((with_reducible refine Gd_nd ?_ ?_) <;> intro hb hb2 <;> first | contradiction | (exfalso; omega) | (refine zH hb2 ?_; try clear hb2))
  | ((with_reducible refine Gd_nb ?_ ?_) <;> intro hb <;> first | contradiction | refine zH hb ?_)
  | ((with_reducible refine Gd_d ?_ ?_) <;> intro hb hb2 <;> first | contradiction | (exfalso; omega) | (refine zH hb2 ?_; try clear hb2))
  | ((with_reducible refine Gd_b ?_ ?_) <;> intro hb <;> first | contradiction | refine zH hb ?_)
  | ((with_reducible refine Res_id ?_); refine zS ?_)
  | ((with_reducible refine awp_drawnC ?_ ?_); rfl; refine zS ?_)
  | ((with_reducible refine awp_drawnA ?_ ?_); rfl; refine zS ?_)
  | ((with_reducible refine CGd_nd ?_ ?_) <;> intro hb hb2 <;> first | contradiction | (exfalso; omega) | (refine zH hb2 ?_; try clear hb2))
  | ((with_reducible refine CGd_nb ?_ ?_) <;> intro hb <;> first | contradiction | refine zH hb ?_)
  | ((with_reducible refine CGd_d ?_ ?_) <;> intro hb hb2 <;> first | contradiction | (exfalso; omega) | (refine zH hb2 ?_; try clear hb2))
  | ((with_reducible refine CGd_b ?_ ?_) <;> intro hb <;> first | contradiction | refine zH hb ?_)
  | ((with_reducible refine CRes_id ?_); refine zS ?_)
  | ((with_reducible refine DStep_id ?_); refine zdP ?_; refine ⟨_, by first | exact cutPrefix0_ok _ _ | fail, fun _ => rfl, fun _ => rfl, rfl, (fun h => by first | cases h | fail), ?_⟩; try refine zS ?_)
  | ((with_reducible refine DStep_id ?_); refine zdW ?_; refine ⟨_, by first | exact cutPrefix0_ok _ _ | fail, fun _ => rfl, fun _ => rfl, rfl, ?_⟩; try refine zS ?_)
  | ((with_reducible refine AWP_c ?_); refine zcdT ?_)
  | ((with_reducible refine AWP_c ?_); refine zcdF ?_)
  | ((with_reducible refine AWP_c ?_); refine zcdN ?_ ?_ <;> intro hb hb2 <;> first | contradiction | (exfalso; omega) | ((try refine zH hb2 ?_); try clear hb2))
  | ((with_reducible refine AWP_c ?_); refine zcdD ?_ ?_ <;> intro hb hb2 <;> first | contradiction | (exfalso; omega) | ((try refine zH hb2 ?_); try clear hb2))
  | ((with_reducible refine AWP_c ?_); refine zcdM ?_ ?_ <;> intro hb <;> first | contradiction | (try refine zH hb ?_))
  | ((with_reducible refine AWP_c ?_); refine zcdB ?_ ?_ <;> intro hb <;> first | contradiction | (try refine zH hb ?_))
  | ((with_reducible refine awp_ret ?_); refine fin_r ?_)
  | ((with_reducible refine awp_ret ?_); refine fin_q ?_ ?_)
  | with_reducible refine fin_qn ?_ ?_
  | ((with_reducible refine awp_skip ?_); refine zS ?_)
  | with_reducible refine awp_block ?_
  | ((with_reducible refine awp_exit ?_); refine zS ?_)
  | ((with_reducible refine CallK_id ?_); refine zcF ?_; refine ⟨_, by first | exact cutPrefix0_ok _ _ | fail, fun _ => rfl, fun _ => rfl, rfl, ?_⟩; try refine zS ?_)
  | exact True.intro
  | fail
  all_goals simp [go_sem, opF, *]
def pfxAt (s : Str) (i : Nat) (x : Str) : Bool := pfx (s.drop i) x
theorem at_ok (s : Str) (i : Nat) (x : Str) (hs : s.length < 9223372036854775808) (hi : i ≤ s.length) (hx : x.length ≤ 100) : AFn env 39 [aS s, aI i, aS x] [] (aB (pfxAt s i x)) [] := by
  refine afn_body Tryd.func39 rfl (by decide) ?_
  simp only [Tryd.ntmps39, Tryd.results39, List.length_cons, List.length_nil, List.cons_append, List.nil_append, Nat.reduceAdd, Nat.reduceSub, List.replicate]
  repeat' first
  | with_reducible refine awp_seq ?_
  | ((with_reducible refine awp_region ?_); refine zS ?_)
  | ((with_reducible refine Gd_nd ?_ ?_) <;> intro hb hb2 <;> first | contradiction | (exfalso; omega) | (refine zH hb2 ?_; try clear hb2))
  | ((with_reducible refine Gd_nb ?_ ?_) <;> intro hb <;> first | contradiction | refine zH hb ?_)
  | ((with_reducible refine Gd_d ?_ ?_) <;> intro hb hb2 <;> first | contradiction | (exfalso; omega) | (refine zH hb2 ?_; try clear hb2))
  | ((with_reducible refine Gd_b ?_ ?_) <;> intro hb <;> first | contradiction | refine zH hb ?_)
  | ((with_reducible refine Res_id ?_); refine zS ?_)
  | ((with_reducible refine awp_drawnC ?_ ?_); rfl; refine zS ?_)
  | ((with_reducible refine awp_drawnA ?_ ?_); rfl; refine zS ?_)
  | ((with_reducible refine CGd_nd ?_ ?_) <;> intro hb hb2 <;> first | contradiction | (exfalso; omega) | (refine zH hb2 ?_; try clear hb2))
  | ((with_reducible refine CGd_nb ?_ ?_) <;> intro hb <;> first | contradiction | refine zH hb ?_)
  | ((with_reducible refine CGd_d ?_ ?_) <;> intro hb hb2 <;> first | contradiction | (exfalso; omega) | (refine zH hb2 ?_; try clear hb2))
  | ((with_reducible refine CGd_b ?_ ?_) <;> intro hb <;> first | contradiction | refine zH hb ?_)
  | ((with_reducible refine CRes_id ?_); refine zS ?_)
  | ((with_reducible refine DStep_id ?_); refine zdP ?_; refine ⟨_, by first | exact cutPrefix0_ok _ _ | fail, fun _ => rfl, fun _ => rfl, rfl, (fun h => by first | cases h | fail), ?_⟩; try refine zS ?_)
  | ((with_reducible refine DStep_id ?_); refine zdW ?_; refine ⟨_, by first | exact cutPrefix0_ok _ _ | fail, fun _ => rfl, fun _ => rfl, rfl, ?_⟩; try refine zS ?_)
  | ((with_reducible refine AWP_c ?_); refine zcdT ?_)
  | ((with_reducible refine AWP_c ?_); refine zcdF ?_)
  | ((with_reducible refine AWP_c ?_); refine zcdN ?_ ?_ <;> intro hb hb2 <;> first | contradiction | (exfalso; omega) | ((try refine zH hb2 ?_); try clear hb2))
  | ((with_reducible refine AWP_c ?_); refine zcdD ?_ ?_ <;> intro hb hb2 <;> first | contradiction | (exfalso; omega) | ((try refine zH hb2 ?_); try clear hb2))
  | ((with_reducible refine AWP_c ?_); refine zcdM ?_ ?_ <;> intro hb <;> first | contradiction | (try refine zH hb ?_))
  | ((with_reducible refine AWP_c ?_); refine zcdB ?_ ?_ <;> intro hb <;> first | contradiction | (try refine zH hb ?_))
  | ((with_reducible refine awp_ret ?_); refine fin_r ?_)
  | ((with_reducible refine awp_ret ?_); refine fin_q ?_ ?_)
  | with_reducible refine fin_qn ?_ ?_
  | ((with_reducible refine awp_skip ?_); refine zS ?_)
  | with_reducible refine awp_block ?_
  | ((with_reducible refine awp_exit ?_); refine zS ?_)
  | ((with_reducible refine CallK_id ?_); refine zcF ?_; refine ⟨_, by first | exact cutPrefix0_ok _ _ | fail, fun _ => rfl, fun _ => rfl, rfl, ?_⟩; try refine zS ?_)
  | exact True.intro
  | fail
  · have e : ((i : Int) + (x.length : Int)).toNat = i + x.length := by omega
    simp [go_sem, e, subL_ln, pfxAt, pfx, List.prefix_iff_eq_take, List.drop_take, eq_comm]
  · have : ¬ x <+: s.drop i := fun h => by have := pfx_len h; simp at this; omega
    simp [go_sem, pfxAt, pfx, this]
theorem rat_ok (s : Str) (i : Nat) (x : Str) (hs : s.length < 9223372036854775808) (hi : i ≤ s.length) (hx : x.length ≤ 100) : AFn env 81 [aS s, aI i, aS x] [] (aB (pfxAt s i x)) [] := by
  refine afn_body Tryd.func81 rfl (by decide) ?_
  simp only [Tryd.ntmps81, Tryd.results81, List.length_cons, List.length_nil, List.cons_append, List.nil_append, Nat.reduceAdd, Nat.reduceSub, List.replicate]
  repeat' first
  | with_reducible refine awp_seq ?_
  | ((with_reducible refine awp_region ?_); refine zS ?_)
  | ((with_reducible refine Gd_nd ?_ ?_) <;> intro hb hb2 <;> first | contradiction | (exfalso; omega) | (refine zH hb2 ?_; try clear hb2))
  | ((with_reducible refine Gd_nb ?_ ?_) <;> intro hb <;> first | contradiction | refine zH hb ?_)
  | ((with_reducible refine Gd_d ?_ ?_) <;> intro hb hb2 <;> first | contradiction | (exfalso; omega) | (refine zH hb2 ?_; try clear hb2))
  | ((with_reducible refine Gd_b ?_ ?_) <;> intro hb <;> first | contradiction | refine zH hb ?_)
  | ((with_reducible refine Res_id ?_); refine zS ?_)
  | ((with_reducible refine awp_drawnC ?_ ?_); rfl; refine zS ?_)
  | ((with_reducible refine awp_drawnA ?_ ?_); rfl; refine zS ?_)
  | ((with_reducible refine CGd_nd ?_ ?_) <;> intro hb hb2 <;> first | contradiction | (exfalso; omega) | (refine zH hb2 ?_; try clear hb2))
  | ((with_reducible refine CGd_nb ?_ ?_) <;> intro hb <;> first | contradiction | refine zH hb ?_)
  | ((with_reducible refine CGd_d ?_ ?_) <;> intro hb hb2 <;> first | contradiction | (exfalso; omega) | (refine zH hb2 ?_; try clear hb2))
  | ((with_reducible refine CGd_b ?_ ?_) <;> intro hb <;> first | contradiction | refine zH hb ?_)
  | ((with_reducible refine CRes_id ?_); refine zS ?_)
  | ((with_reducible refine DStep_id ?_); refine zdP ?_; refine ⟨_, by first | exact cutPrefix0_ok _ _ | fail, fun _ => rfl, fun _ => rfl, rfl, (fun h => by first | cases h | fail), ?_⟩; try refine zS ?_)
  | ((with_reducible refine DStep_id ?_); refine zdW ?_; refine ⟨_, by first | exact cutPrefix0_ok _ _ | fail, fun _ => rfl, fun _ => rfl, rfl, ?_⟩; try refine zS ?_)
  | ((with_reducible refine AWP_c ?_); refine zcdT ?_)
  | ((with_reducible refine AWP_c ?_); refine zcdF ?_)
  | ((with_reducible refine AWP_c ?_); refine zcdN ?_ ?_ <;> intro hb hb2 <;> first | contradiction | (exfalso; omega) | ((try refine zH hb2 ?_); try clear hb2))
  | ((with_reducible refine AWP_c ?_); refine zcdD ?_ ?_ <;> intro hb hb2 <;> first | contradiction | (exfalso; omega) | ((try refine zH hb2 ?_); try clear hb2))
  | ((with_reducible refine AWP_c ?_); refine zcdM ?_ ?_ <;> intro hb <;> first | contradiction | (try refine zH hb ?_))
  | ((with_reducible refine AWP_c ?_); refine zcdB ?_ ?_ <;> intro hb <;> first | contradiction | (try refine zH hb ?_))
  | ((with_reducible refine awp_ret ?_); refine fin_r ?_)
  | ((with_reducible refine awp_ret ?_); refine fin_q ?_ ?_)
  | with_reducible refine fin_qn ?_ ?_
  | ((with_reducible refine awp_skip ?_); refine zS ?_)
  | with_reducible refine awp_block ?_
  | ((with_reducible refine awp_exit ?_); refine zS ?_)
  | ((with_reducible refine CallK_id ?_); refine zcF ?_; refine ⟨_, by first | exact cutPrefix0_ok _ _ | fail, fun _ => rfl, fun _ => rfl, rfl, ?_⟩; try refine zS ?_)
  | exact True.intro
  | fail
  · have e : ((i : Int) + (x.length : Int)).toNat = i + x.length := by omega
    simp [go_sem, e, subL_ln, pfxAt, pfx, List.prefix_iff_eq_take, List.drop_take, eq_comm]
  · have : ¬ x <+: s.drop i := fun h => by have := pfx_len h; simp at this; omega
    simp [go_sem, pfxAt, pfx, this]
def rwords : List Str := [[110, 101, 103], [110, 111, 116], [97, 100, 100], [115, 117, 98], [109, 117, 108], [100, 105, 118], [109, 111, 100], [101, 113], [108, 116], [108, 101], [97, 110, 100], [111, 114]]
def wordF (op : Int) : Str := if op < 3 ∨ op > 14 then [] else gt rwords (op - 3).toNat
theorem word_ok (op : Int) : AFn env 76 [aI op] [] (aS (wordF op)) [] := by
  refine afn_body Tryd.func76 rfl (by decide) ?_
  simp only [Tryd.ntmps76, Tryd.results76, List.length_cons, List.length_nil, List.cons_append, List.nil_append, Nat.reduceAdd, Nat.reduceSub, List.replicate]
  repeat' first
  | with_reducible refine awp_seq ?_
  | ((with_reducible refine awp_region ?_); refine zS ?_)
  | ((with_reducible refine Gd_nd ?_ ?_) <;> intro hb hb2 <;> first | contradiction | (exfalso; omega) | (refine zH hb2 ?_; try clear hb2))
  | ((with_reducible refine Gd_nb ?_ ?_) <;> intro hb <;> first | contradiction | refine zH hb ?_)
  | ((with_reducible refine Gd_d ?_ ?_) <;> intro hb hb2 <;> first | contradiction | (exfalso; omega) | (refine zH hb2 ?_; try clear hb2))
  | ((with_reducible refine Gd_b ?_ ?_) <;> intro hb <;> first | contradiction | refine zH hb ?_)
  | ((with_reducible refine Res_id ?_); refine zS ?_)
  | ((with_reducible refine awp_drawnC ?_ ?_); rfl; refine zS ?_)
  | ((with_reducible refine awp_drawnA ?_ ?_); rfl; refine zS ?_)
  | ((with_reducible refine CGd_nd ?_ ?_) <;> intro hb hb2 <;> first | contradiction | (exfalso; omega) | (refine zH hb2 ?_; try clear hb2))
  | ((with_reducible refine CGd_nb ?_ ?_) <;> intro hb <;> first | contradiction | refine zH hb ?_)
  | ((with_reducible refine CGd_d ?_ ?_) <;> intro hb hb2 <;> first | contradiction | (exfalso; omega) | (refine zH hb2 ?_; try clear hb2))
  | ((with_reducible refine CGd_b ?_ ?_) <;> intro hb <;> first | contradiction | refine zH hb ?_)
  | ((with_reducible refine CRes_id ?_); refine zS ?_)
  | ((with_reducible refine DStep_id ?_); refine zdP ?_; refine ⟨_, by first | exact cutPrefix0_ok _ _ | fail, fun _ => rfl, fun _ => rfl, rfl, (fun h => by first | cases h | fail), ?_⟩; try refine zS ?_)
  | ((with_reducible refine DStep_id ?_); refine zdW ?_; refine ⟨_, by first | exact cutPrefix0_ok _ _ | fail, fun _ => rfl, fun _ => rfl, rfl, ?_⟩; try refine zS ?_)
  | ((with_reducible refine AWP_c ?_); refine zcdT ?_)
  | ((with_reducible refine AWP_c ?_); refine zcdF ?_)
  | ((with_reducible refine AWP_c ?_); refine zcdN ?_ ?_ <;> intro hb hb2 <;> first | contradiction | (exfalso; omega) | ((try refine zH hb2 ?_); try clear hb2))
  | ((with_reducible refine AWP_c ?_); refine zcdD ?_ ?_ <;> intro hb hb2 <;> first | contradiction | (exfalso; omega) | ((try refine zH hb2 ?_); try clear hb2))
  | ((with_reducible refine AWP_c ?_); refine zcdM ?_ ?_ <;> intro hb <;> first | contradiction | (try refine zH hb ?_))
  | ((with_reducible refine AWP_c ?_); refine zcdB ?_ ?_ <;> intro hb <;> first | contradiction | (try refine zH hb ?_))
  | ((with_reducible refine awp_ret ?_); refine fin_r ?_)
  | ((with_reducible refine awp_ret ?_); refine fin_q ?_ ?_)
  | with_reducible refine fin_qn ?_ ?_
  | ((with_reducible refine awp_skip ?_); refine zS ?_)
  | with_reducible refine awp_block ?_
  | ((with_reducible refine awp_exit ?_); refine zS ?_)
  | ((with_reducible refine CallK_id ?_); refine zcF ?_; refine ⟨_, by first | exact cutPrefix0_ok _ _ | fail, fun _ => rfl, fun _ => rfl, rfl, ?_⟩; try refine zS ?_)
  | exact True.intro
  | fail
  · simp [go_sem, wordF, *]; rfl
  rotate_left
  · simp [go_sem, wordF, *]; rfl
  obtain ⟨w, hw⟩ : ∃ w, w = gt rwords (op - 3).toNat := ⟨_, rfl⟩
  have lit : rowsAt (rwords.map sRow) (op - 3).toNat = [dS w] := by rw [hw]; exact rowsAt_map sRow rwords _ (by show _ < 12; omega)
  simp only [rwords, List.map_cons, List.map_nil, sRow, dS, st] at lit
  simp (maxSteps := 500000) (disch := omega) only [go_sem, Bool.not_not, List.mem_singleton, forall_eq, ↓reduceIte, if_pos, rowsAt_map, wrap64, wrapu8, List.getElem?_cons_zero, List.getElem?_cons_succ, Int.reduceToNat, Nat.reduceAdd, Nat.reduceBEq, Bool.or_false, Bool.false_or, Bool.true_or, Nat.reduceSub, Nat.reduceMul, Int.reduceAdd, Int.reduceEq, Int.reduceLT, Int.reduceLE, Int.reduceNeg, Nat.reduceLT, Nat.reduceLeDiff, lit]
  repeat' first
  | with_reducible refine awp_seq ?_
  | ((with_reducible refine awp_region ?_); refine zS ?_)
  | ((with_reducible refine Gd_nd ?_ ?_) <;> intro hb hb2 <;> first | contradiction | (exfalso; omega) | (refine zH hb2 ?_; try clear hb2))
  | ((with_reducible refine Gd_nb ?_ ?_) <;> intro hb <;> first | contradiction | refine zH hb ?_)
  | ((with_reducible refine Gd_d ?_ ?_) <;> intro hb hb2 <;> first | contradiction | (exfalso; omega) | (refine zH hb2 ?_; try clear hb2))
  | ((with_reducible refine Gd_b ?_ ?_) <;> intro hb <;> first | contradiction | refine zH hb ?_)
  | ((with_reducible refine Res_id ?_); refine zS ?_)
  | ((with_reducible refine awp_drawnC ?_ ?_); rfl; refine zS ?_)
  | ((with_reducible refine awp_drawnA ?_ ?_); rfl; refine zS ?_)
  | ((with_reducible refine CGd_nd ?_ ?_) <;> intro hb hb2 <;> first | contradiction | (exfalso; omega) | (refine zH hb2 ?_; try clear hb2))
  | ((with_reducible refine CGd_nb ?_ ?_) <;> intro hb <;> first | contradiction | refine zH hb ?_)
  | ((with_reducible refine CGd_d ?_ ?_) <;> intro hb hb2 <;> first | contradiction | (exfalso; omega) | (refine zH hb2 ?_; try clear hb2))
  | ((with_reducible refine CGd_b ?_ ?_) <;> intro hb <;> first | contradiction | refine zH hb ?_)
  | ((with_reducible refine CRes_id ?_); refine zS ?_)
  | ((with_reducible refine DStep_id ?_); refine zdP ?_; refine ⟨_, by first | exact cutPrefix0_ok _ _ | fail, fun _ => rfl, fun _ => rfl, rfl, (fun h => by first | cases h | fail), ?_⟩; try refine zS ?_)
  | ((with_reducible refine DStep_id ?_); refine zdW ?_; refine ⟨_, by first | exact cutPrefix0_ok _ _ | fail, fun _ => rfl, fun _ => rfl, rfl, ?_⟩; try refine zS ?_)
  | ((with_reducible refine AWP_c ?_); refine zcdT ?_)
  | ((with_reducible refine AWP_c ?_); refine zcdF ?_)
  | ((with_reducible refine AWP_c ?_); refine zcdN ?_ ?_ <;> intro hb hb2 <;> first | contradiction | (exfalso; omega) | ((try refine zH hb2 ?_); try clear hb2))
  | ((with_reducible refine AWP_c ?_); refine zcdD ?_ ?_ <;> intro hb hb2 <;> first | contradiction | (exfalso; omega) | ((try refine zH hb2 ?_); try clear hb2))
  | ((with_reducible refine AWP_c ?_); refine zcdM ?_ ?_ <;> intro hb <;> first | contradiction | (try refine zH hb ?_))
  | ((with_reducible refine AWP_c ?_); refine zcdB ?_ ?_ <;> intro hb <;> first | contradiction | (try refine zH hb ?_))
  | ((with_reducible refine awp_ret ?_); refine fin_r ?_)
  | ((with_reducible refine awp_ret ?_); refine fin_q ?_ ?_)
  | with_reducible refine fin_qn ?_ ?_
  | ((with_reducible refine awp_skip ?_); refine zS ?_)
  | with_reducible refine awp_block ?_
  | ((with_reducible refine awp_exit ?_); refine zS ?_)
  | ((with_reducible refine CallK_id ?_); refine zcF ?_; refine ⟨_, by first | exact cutPrefix0_ok _ _ | fail, fun _ => rfl, fun _ => rfl, rfl, ?_⟩; try refine zS ?_)
  | exact True.intro
  | fail
  have : ¬ (op < 3 ∨ op > 14) := by omega
  simp [go_sem, wordF, this, hw, st]
end Go.Eng
open Go Go.Proofs
namespace Go.Eng
set_option linter.unusedSimpArgs false
set_option linter.unusedVariables false
set_option maxRecDepth 100000
set_option maxHeartbeats 8000000

def numF : Str → Int → Option Int
  | [], n => some n
  | c :: l, n => if digitF c.toNat = true then numF l (10 * n + (c.toNat - 48)) else none
def numberF (l : Str) : Int × Bool :=
  if l = [] ∨ l.length > 13 ∨ l.length > 1 ∧ byteAt l 0 = 48 then (0, false) else match numF l 0 with
  | some n => (n, decide (n ≤ 1099511627776))
  | none => (0, false)
theorem pow10 {i k : Nat} (h : i ≤ k) : (10 : Int) ^ i ≤ 10 ^ k := by
  obtain ⟨j, rfl⟩ : ∃ j, k = i + j := ⟨k - i, by omega⟩
  rw [Int.pow_add]
  have h1 : (0 : Int) ≤ 10 ^ i := Int.pow_nonneg (by decide)
  have h2 : (0 : Int) < 10 ^ j := Int.pow_pos (by decide)
  have h3 := Int.mul_le_mul_of_nonneg_left (show (1 : Int) ≤ 10 ^ j by omega) h1
  rwa [Int.mul_one] at h3
theorem digitF_iff (c : Int) : digitF c = true ↔ 48 ≤ c ∧ c ≤ 57 := by simp [digitF]
theorem number_ok (l : Str) : AFn env 66 [aS l] [] (.tup [aI (numberF l).1, aB (numberF l).2]) [] := by
  refine afn_body Tryd.func66 rfl (by decide) ?_
  simp only [Tryd.ntmps66, Tryd.results66, List.length_cons, List.length_nil, List.cons_append, List.nil_append, Nat.reduceAdd, Nat.reduceSub, List.replicate]
  refine awp_seq ?_
  refine awp_region ?_
  simp only [go_sem]
  refine awp_cut (fun _ : Unit => ¬ (l = [] ∨ l.length > 13 ∨ l.length > 1 ∧ byteAt l 0 = 48)) (fun _ => []) (fun _ => []) ?_ ?_
  · repeat' first
    | with_reducible refine awp_seq ?_
    | ((with_reducible refine awp_region ?_); refine zS ?_)
    | ((with_reducible refine Gd_nd ?_ ?_) <;> intro hb hb2 <;> first | contradiction | (exfalso; omega) | (refine zH hb2 ?_; try clear hb2))
    | ((with_reducible refine Gd_nb ?_ ?_) <;> intro hb <;> first | contradiction | refine zH hb ?_)
    | ((with_reducible refine Gd_d ?_ ?_) <;> intro hb hb2 <;> first | contradiction | (exfalso; omega) | (refine zH hb2 ?_; try clear hb2))
    | ((with_reducible refine Gd_b ?_ ?_) <;> intro hb <;> first | contradiction | refine zH hb ?_)
    | ((with_reducible refine Res_id ?_); refine zS ?_)
    | ((with_reducible refine awp_drawnC ?_ ?_); rfl; refine zS ?_)
    | ((with_reducible refine awp_drawnA ?_ ?_); rfl; refine zS ?_)
    | ((with_reducible refine CGd_nd ?_ ?_) <;> intro hb hb2 <;> first | contradiction | (exfalso; omega) | (refine zH hb2 ?_; try clear hb2))
    | ((with_reducible refine CGd_nb ?_ ?_) <;> intro hb <;> first | contradiction | refine zH hb ?_)
    | ((with_reducible refine CGd_d ?_ ?_) <;> intro hb hb2 <;> first | contradiction | (exfalso; omega) | (refine zH hb2 ?_; try clear hb2))
    | ((with_reducible refine CGd_b ?_ ?_) <;> intro hb <;> first | contradiction | refine zH hb ?_)
    | ((with_reducible refine CRes_id ?_); refine zS ?_)
    | ((with_reducible refine DStep_id ?_); refine zdP ?_; refine ⟨_, by first | exact digit_ok _ | fail, fun _ => rfl, fun _ => rfl, rfl, (fun h => by first | cases h | fail), ?_⟩; try refine zS ?_)
    | ((with_reducible refine DStep_id ?_); refine zdW ?_; refine ⟨_, by first | exact digit_ok _ | fail, fun _ => rfl, fun _ => rfl, rfl, ?_⟩; try refine zS ?_)
    | ((with_reducible refine AWP_c ?_); refine zcdT ?_)
    | ((with_reducible refine AWP_c ?_); refine zcdF ?_)
    | ((with_reducible refine AWP_c ?_); refine zcdN ?_ ?_ <;> intro hb hb2 <;> first | contradiction | (exfalso; omega) | ((try refine zH hb2 ?_); try clear hb2))
    | ((with_reducible refine AWP_c ?_); refine zcdD ?_ ?_ <;> intro hb hb2 <;> first | contradiction | (exfalso; omega) | ((try refine zH hb2 ?_); try clear hb2))
    | ((with_reducible refine AWP_c ?_); refine zcdM ?_ ?_ <;> intro hb <;> first | contradiction | (try refine zH hb ?_))
    | ((with_reducible refine AWP_c ?_); refine zcdB ?_ ?_ <;> intro hb <;> first | contradiction | (try refine zH hb ?_))
    | ((with_reducible refine awp_ret ?_); refine fin_r ?_)
    | ((with_reducible refine awp_ret ?_); refine fin_q ?_ ?_)
    | with_reducible refine fin_qn ?_ ?_
    | ((with_reducible refine awp_skip ?_); refine zS ?_)
    | with_reducible refine awp_block ?_
    | ((with_reducible refine awp_exit ?_); refine zS ?_)
    | ((with_reducible refine CallK_id ?_); refine zcF ?_; refine ⟨_, by first | exact digit_ok _ | fail, fun _ => rfl, fun _ => rfl, rfl, ?_⟩; try refine zS ?_)
    | exact True.intro
    | fail
    all_goals first
    | (refine ⟨(), (by rintro (h | h | ⟨h, h'⟩) <;> first | contradiction | omega), wk_le (by simp only [go_sem]) (by simp only [go_sem])⟩; done)
    | rfl
    | (rw [show numberF l = (0, false) from if_pos (by first | exact .inl ‹_› | exact .inr (.inl (by omega)) | exact .inr (.inr ⟨by omega, by assumption⟩))])
  intro _ hn
  simp only [go_sem]
  repeat' first
  | with_reducible refine awp_seq ?_
  | ((with_reducible refine awp_region ?_); refine zS ?_)
  | ((with_reducible refine Gd_nd ?_ ?_) <;> intro hb hb2 <;> first | contradiction | (exfalso; omega) | (refine zH hb2 ?_; try clear hb2))
  | ((with_reducible refine Gd_nb ?_ ?_) <;> intro hb <;> first | contradiction | refine zH hb ?_)
  | ((with_reducible refine Gd_d ?_ ?_) <;> intro hb hb2 <;> first | contradiction | (exfalso; omega) | (refine zH hb2 ?_; try clear hb2))
  | ((with_reducible refine Gd_b ?_ ?_) <;> intro hb <;> first | contradiction | refine zH hb ?_)
  | ((with_reducible refine Res_id ?_); refine zS ?_)
  | ((with_reducible refine awp_drawnC ?_ ?_); rfl; refine zS ?_)
  | ((with_reducible refine awp_drawnA ?_ ?_); rfl; refine zS ?_)
  | ((with_reducible refine CGd_nd ?_ ?_) <;> intro hb hb2 <;> first | contradiction | (exfalso; omega) | (refine zH hb2 ?_; try clear hb2))
  | ((with_reducible refine CGd_nb ?_ ?_) <;> intro hb <;> first | contradiction | refine zH hb ?_)
  | ((with_reducible refine CGd_d ?_ ?_) <;> intro hb hb2 <;> first | contradiction | (exfalso; omega) | (refine zH hb2 ?_; try clear hb2))
  | ((with_reducible refine CGd_b ?_ ?_) <;> intro hb <;> first | contradiction | refine zH hb ?_)
  | ((with_reducible refine CRes_id ?_); refine zS ?_)
  | ((with_reducible refine DStep_id ?_); refine zdP ?_; refine ⟨_, by first | exact digit_ok _ | fail, fun _ => rfl, fun _ => rfl, rfl, (fun h => by first | cases h | fail), ?_⟩; try refine zS ?_)
  | ((with_reducible refine DStep_id ?_); refine zdW ?_; refine ⟨_, by first | exact digit_ok _ | fail, fun _ => rfl, fun _ => rfl, rfl, ?_⟩; try refine zS ?_)
  | ((with_reducible refine AWP_c ?_); refine zcdT ?_)
  | ((with_reducible refine AWP_c ?_); refine zcdF ?_)
  | ((with_reducible refine AWP_c ?_); refine zcdN ?_ ?_ <;> intro hb hb2 <;> first | contradiction | (exfalso; omega) | ((try refine zH hb2 ?_); try clear hb2))
  | ((with_reducible refine AWP_c ?_); refine zcdD ?_ ?_ <;> intro hb hb2 <;> first | contradiction | (exfalso; omega) | ((try refine zH hb2 ?_); try clear hb2))
  | ((with_reducible refine AWP_c ?_); refine zcdM ?_ ?_ <;> intro hb <;> first | contradiction | (try refine zH hb ?_))
  | ((with_reducible refine AWP_c ?_); refine zcdB ?_ ?_ <;> intro hb <;> first | contradiction | (try refine zH hb ?_))
  | ((with_reducible refine awp_ret ?_); refine fin_r ?_)
  | ((with_reducible refine awp_ret ?_); refine fin_q ?_ ?_)
  | with_reducible refine fin_qn ?_ ?_
  | ((with_reducible refine awp_skip ?_); refine zS ?_)
  | with_reducible refine awp_block ?_
  | ((with_reducible refine awp_exit ?_); refine zS ?_)
  | ((with_reducible refine CallK_id ?_); refine zcF ?_; refine ⟨_, by first | exact digit_ok _ | fail, fun _ => rfl, fun _ => rfl, rfl, ?_⟩; try refine zS ?_)
  | exact True.intro
  | fail
  refine awp_loopT (fun s : Nat × Int => s.1 ≤ l.length ∧ numF (l.drop s.1) s.2 = numF l 0 ∧ 0 ≤ s.2 ∧ s.2 < 10 ^ s.1) (fun s => l.length - s.1) (fun s => [(4, aI s.2), (25, aI s.1)]) (fun _ => []) (0, 0) ⟨by omega, rfl, by simp, by simp⟩ (wk_le (by simp only [go_sem, Bool.not_not, List.mem_singleton, forall_eq, ↓reduceIte, if_pos, rowsAt_map, wrap64, wrapu8, List.getElem?_cons_zero, List.getElem?_cons_succ, Int.reduceToNat, Nat.reduceAdd, Nat.reduceBEq, Bool.or_false, Bool.false_or, Bool.true_or, Nat.reduceSub, Nat.reduceMul, Int.reduceAdd, Int.reduceEq, Int.reduceLT, Int.reduceLE, Int.reduceNeg, Nat.reduceLT, Nat.reduceLeDiff]; simp) (by simp only [go_sem])) ?_
  rintro ⟨i, n⟩ ⟨h1, h2, h3, h4⟩
  simp only at h1 h2 h3 h4
  simp only [go_sem]
  repeat' first
  | with_reducible refine awp_seq ?_
  | ((with_reducible refine awp_region ?_); refine zS ?_)
  | ((with_reducible refine Gd_nd ?_ ?_) <;> intro hb hb2 <;> first | contradiction | (exfalso; omega) | (refine zH hb2 ?_; try clear hb2))
  | ((with_reducible refine Gd_nb ?_ ?_) <;> intro hb <;> first | contradiction | refine zH hb ?_)
  | ((with_reducible refine Gd_d ?_ ?_) <;> intro hb hb2 <;> first | contradiction | (exfalso; omega) | (refine zH hb2 ?_; try clear hb2))
  | ((with_reducible refine Gd_b ?_ ?_) <;> intro hb <;> first | contradiction | refine zH hb ?_)
  | ((with_reducible refine Res_id ?_); refine zS ?_)
  | ((with_reducible refine awp_drawnC ?_ ?_); rfl; refine zS ?_)
  | ((with_reducible refine awp_drawnA ?_ ?_); rfl; refine zS ?_)
  | ((with_reducible refine CGd_nd ?_ ?_) <;> intro hb hb2 <;> first | contradiction | (exfalso; omega) | (refine zH hb2 ?_; try clear hb2))
  | ((with_reducible refine CGd_nb ?_ ?_) <;> intro hb <;> first | contradiction | refine zH hb ?_)
  | ((with_reducible refine CGd_d ?_ ?_) <;> intro hb hb2 <;> first | contradiction | (exfalso; omega) | (refine zH hb2 ?_; try clear hb2))
  | ((with_reducible refine CGd_b ?_ ?_) <;> intro hb <;> first | contradiction | refine zH hb ?_)
  | ((with_reducible refine CRes_id ?_); refine zS ?_)
  | ((with_reducible refine DStep_id ?_); refine zdP ?_; refine ⟨_, by first | exact digit_ok _ | fail, fun _ => rfl, fun _ => rfl, rfl, (fun h => by first | cases h | fail), ?_⟩; try refine zS ?_)
  | ((with_reducible refine DStep_id ?_); refine zdW ?_; refine ⟨_, by first | exact digit_ok _ | fail, fun _ => rfl, fun _ => rfl, rfl, ?_⟩; try refine zS ?_)
  | ((with_reducible refine AWP_c ?_); refine zcdT ?_)
  | ((with_reducible refine AWP_c ?_); refine zcdF ?_)
  | ((with_reducible refine AWP_c ?_); refine zcdN ?_ ?_ <;> intro hb hb2 <;> first | contradiction | (exfalso; omega) | ((try refine zH hb2 ?_); try clear hb2))
  | ((with_reducible refine AWP_c ?_); refine zcdD ?_ ?_ <;> intro hb hb2 <;> first | contradiction | (exfalso; omega) | ((try refine zH hb2 ?_); try clear hb2))
  | ((with_reducible refine AWP_c ?_); refine zcdM ?_ ?_ <;> intro hb <;> first | contradiction | (try refine zH hb ?_))
  | ((with_reducible refine AWP_c ?_); refine zcdB ?_ ?_ <;> intro hb <;> first | contradiction | (try refine zH hb ?_))
  | ((with_reducible refine awp_ret ?_); refine fin_r ?_)
  | ((with_reducible refine awp_ret ?_); refine fin_q ?_ ?_)
  | with_reducible refine fin_qn ?_ ?_
  | ((with_reducible refine awp_skip ?_); refine zS ?_)
  | with_reducible refine awp_block ?_
  | ((with_reducible refine awp_exit ?_); refine zS ?_)
  | ((with_reducible refine CallK_id ?_); refine zcF ?_; refine ⟨_, by first | exact digit_ok _ | fail, fun _ => rfl, fun _ => rfl, rfl, ?_⟩; try refine zS ?_)
  | exact True.intro
  | fail
  · have hi : i < l.length := by omega
    rw [show numberF l = (0, false) by
      rw [numberF, if_neg hn, ← h2, drop_gt hi, numF, if_neg (by rw [← byteAt_gt, hb]; simp)]]
  · have hi : i < l.length := by omega
    have hd := (digitF_iff _).1 hb
    have hb' := byteAt_gt (l := l) (i := i)
    have hl : l.length ≤ 13 := by omega
    have hp : (10 : Int) ^ i ≤ 10 ^ 12 := pow10 (by omega)
    have hq : (10 : Int) ^ 12 = 1000000000000 := by decide
    have e : IntKind.i64.wrap (IntKind.i64.wrap (10 * n) + IntKind.i64.wrap (IntKind.u8.wrap (byteAt l i - 48))) = 10 * n + (byteAt l i - 48) := by
      rw [wrapu8 (by omega) (by omega), wrap64 (x := 10 * n) (by omega) (by omega), wrap64 (x := byteAt l i - 48) (by omega) (by omega), wrap64 (by omega) (by omega)]
    refine ⟨(i + 1, 10 * n + (byteAt l i - 48)), ⟨by show i + 1 ≤ _; omega, ?_, by show 0 ≤ 10 * n + (byteAt l i - 48); omega, ?_⟩, by show _ - (i + 1) < _; omega, wk_le (by simp [go_sem, e]) (by simp only [go_sem])⟩
    · rw [← h2, drop_gt hi, numF, if_pos (by rw [← byteAt_gt, hb])]; rfl
    · show 10 * n + (byteAt l i - 48) < 10 ^ (i + 1)
      rw [Int.pow_succ]; omega
  · have hi : i = l.length := by omega
    subst hi
    rw [List.drop_length, numF] at h2
    rw [show numberF l = (n, decide (n ≤ 1099511627776)) by rw [numberF, if_neg hn, ← h2]]
def idxF {α : Type} (p : α → Bool) : List α → Nat → Int
  | [], _ => -1
  | x :: l, i => if p x = true then i else idxF p l (i + 1)
theorem index_ok (l : List Str) (s : Str) (hl : l.length < 1000) : AFn env 79 [aF (l.map sRow), aS s] [] (aI (idxF (fun x => decide (s = x)) l 0)) [] := by
  refine afn_body Tryd.func79 rfl (by decide) ?_
  simp only [Tryd.ntmps79, Tryd.results79, List.length_cons, List.length_nil, List.cons_append, List.nil_append, Nat.reduceAdd, Nat.reduceSub, List.replicate]
  repeat' first
  | with_reducible refine awp_seq ?_
  | ((with_reducible refine awp_region ?_); refine zS ?_)
  | ((with_reducible refine Gd_nd ?_ ?_) <;> intro hb hb2 <;> first | contradiction | (exfalso; omega) | (refine zH hb2 ?_; try clear hb2))
  | ((with_reducible refine Gd_nb ?_ ?_) <;> intro hb <;> first | contradiction | refine zH hb ?_)
  | ((with_reducible refine Gd_d ?_ ?_) <;> intro hb hb2 <;> first | contradiction | (exfalso; omega) | (refine zH hb2 ?_; try clear hb2))
  | ((with_reducible refine Gd_b ?_ ?_) <;> intro hb <;> first | contradiction | refine zH hb ?_)
  | ((with_reducible refine Res_id ?_); refine zS ?_)
  | ((with_reducible refine awp_drawnC ?_ ?_); rfl; refine zS ?_)
  | ((with_reducible refine awp_drawnA ?_ ?_); rfl; refine zS ?_)
  | ((with_reducible refine CGd_nd ?_ ?_) <;> intro hb hb2 <;> first | contradiction | (exfalso; omega) | (refine zH hb2 ?_; try clear hb2))
  | ((with_reducible refine CGd_nb ?_ ?_) <;> intro hb <;> first | contradiction | refine zH hb ?_)
  | ((with_reducible refine CGd_d ?_ ?_) <;> intro hb hb2 <;> first | contradiction | (exfalso; omega) | (refine zH hb2 ?_; try clear hb2))
  | ((with_reducible refine CGd_b ?_ ?_) <;> intro hb <;> first | contradiction | refine zH hb ?_)
  | ((with_reducible refine CRes_id ?_); refine zS ?_)
  | ((with_reducible refine DStep_id ?_); refine zdP ?_; refine ⟨_, by first | exact digit_ok _ | fail, fun _ => rfl, fun _ => rfl, rfl, (fun h => by first | cases h | fail), ?_⟩; try refine zS ?_)
  | ((with_reducible refine DStep_id ?_); refine zdW ?_; refine ⟨_, by first | exact digit_ok _ | fail, fun _ => rfl, fun _ => rfl, rfl, ?_⟩; try refine zS ?_)
  | ((with_reducible refine AWP_c ?_); refine zcdT ?_)
  | ((with_reducible refine AWP_c ?_); refine zcdF ?_)
  | ((with_reducible refine AWP_c ?_); refine zcdN ?_ ?_ <;> intro hb hb2 <;> first | contradiction | (exfalso; omega) | ((try refine zH hb2 ?_); try clear hb2))
  | ((with_reducible refine AWP_c ?_); refine zcdD ?_ ?_ <;> intro hb hb2 <;> first | contradiction | (exfalso; omega) | ((try refine zH hb2 ?_); try clear hb2))
  | ((with_reducible refine AWP_c ?_); refine zcdM ?_ ?_ <;> intro hb <;> first | contradiction | (try refine zH hb ?_))
  | ((with_reducible refine AWP_c ?_); refine zcdB ?_ ?_ <;> intro hb <;> first | contradiction | (try refine zH hb ?_))
  | ((with_reducible refine awp_ret ?_); refine fin_r ?_)
  | ((with_reducible refine awp_ret ?_); refine fin_q ?_ ?_)
  | with_reducible refine fin_qn ?_ ?_
  | ((with_reducible refine awp_skip ?_); refine zS ?_)
  | with_reducible refine awp_block ?_
  | ((with_reducible refine awp_exit ?_); refine zS ?_)
  | ((with_reducible refine CallK_id ?_); refine zcF ?_; refine ⟨_, by first | exact digit_ok _ | fail, fun _ => rfl, fun _ => rfl, rfl, ?_⟩; try refine zS ?_)
  | exact True.intro
  | fail
  refine awp_loopT (fun i : Nat => i ≤ l.length ∧ idxF (fun x => decide (s = x)) (l.drop i) i = idxF (fun x => decide (s = x)) l 0) (fun i => l.length - i) (fun i => [(8, aI i)]) (fun _ => []) 0 ⟨by omega, rfl⟩ (wk_le (by simp only [go_sem, Bool.not_not, List.mem_singleton, forall_eq, ↓reduceIte, if_pos, rowsAt_map, wrap64, wrapu8, List.getElem?_cons_zero, List.getElem?_cons_succ, Int.reduceToNat, Nat.reduceAdd, Nat.reduceBEq, Bool.or_false, Bool.false_or, Bool.true_or, Nat.reduceSub, Nat.reduceMul, Int.reduceAdd, Int.reduceEq, Int.reduceLT, Int.reduceLE, Int.reduceNeg, Nat.reduceLT, Nat.reduceLeDiff]; simp) (by simp only [go_sem])) ?_
  rintro i ⟨h1, h2⟩
  simp only [go_sem]
  repeat' first
  | with_reducible refine awp_seq ?_
  | ((with_reducible refine awp_region ?_); refine zS ?_)
  | ((with_reducible refine Gd_nd ?_ ?_) <;> intro hb hb2 <;> first | contradiction | (exfalso; omega) | (refine zH hb2 ?_; try clear hb2))
  | ((with_reducible refine Gd_nb ?_ ?_) <;> intro hb <;> first | contradiction | refine zH hb ?_)
  | ((with_reducible refine Gd_d ?_ ?_) <;> intro hb hb2 <;> first | contradiction | (exfalso; omega) | (refine zH hb2 ?_; try clear hb2))
  | ((with_reducible refine Gd_b ?_ ?_) <;> intro hb <;> first | contradiction | refine zH hb ?_)
  | ((with_reducible refine Res_id ?_); refine zS ?_)
  | ((with_reducible refine awp_drawnC ?_ ?_); rfl; refine zS ?_)
  | ((with_reducible refine awp_drawnA ?_ ?_); rfl; refine zS ?_)
  | ((with_reducible refine CGd_nd ?_ ?_) <;> intro hb hb2 <;> first | contradiction | (exfalso; omega) | (refine zH hb2 ?_; try clear hb2))
  | ((with_reducible refine CGd_nb ?_ ?_) <;> intro hb <;> first | contradiction | refine zH hb ?_)
  | ((with_reducible refine CGd_d ?_ ?_) <;> intro hb hb2 <;> first | contradiction | (exfalso; omega) | (refine zH hb2 ?_; try clear hb2))
  | ((with_reducible refine CGd_b ?_ ?_) <;> intro hb <;> first | contradiction | refine zH hb ?_)
  | ((with_reducible refine CRes_id ?_); refine zS ?_)
  | ((with_reducible refine DStep_id ?_); refine zdP ?_; refine ⟨_, by first | exact digit_ok _ | fail, fun _ => rfl, fun _ => rfl, rfl, (fun h => by first | cases h | fail), ?_⟩; try refine zS ?_)
  | ((with_reducible refine DStep_id ?_); refine zdW ?_; refine ⟨_, by first | exact digit_ok _ | fail, fun _ => rfl, fun _ => rfl, rfl, ?_⟩; try refine zS ?_)
  | ((with_reducible refine AWP_c ?_); refine zcdT ?_)
  | ((with_reducible refine AWP_c ?_); refine zcdF ?_)
  | ((with_reducible refine AWP_c ?_); refine zcdN ?_ ?_ <;> intro hb hb2 <;> first | contradiction | (exfalso; omega) | ((try refine zH hb2 ?_); try clear hb2))
  | ((with_reducible refine AWP_c ?_); refine zcdD ?_ ?_ <;> intro hb hb2 <;> first | contradiction | (exfalso; omega) | ((try refine zH hb2 ?_); try clear hb2))
  | ((with_reducible refine AWP_c ?_); refine zcdM ?_ ?_ <;> intro hb <;> first | contradiction | (try refine zH hb ?_))
  | ((with_reducible refine AWP_c ?_); refine zcdB ?_ ?_ <;> intro hb <;> first | contradiction | (try refine zH hb ?_))
  | ((with_reducible refine awp_ret ?_); refine fin_r ?_)
  | ((with_reducible refine awp_ret ?_); refine fin_q ?_ ?_)
  | with_reducible refine fin_qn ?_ ?_
  | ((with_reducible refine awp_skip ?_); refine zS ?_)
  | with_reducible refine awp_block ?_
  | ((with_reducible refine awp_exit ?_); refine zS ?_)
  | ((with_reducible refine CallK_id ?_); refine zcF ?_; refine ⟨_, by first | exact digit_ok _ | fail, fun _ => rfl, fun _ => rfl, rfl, ?_⟩; try refine zS ?_)
  | exact True.intro
  | fail
  · have hi : i < l.length := by omega
    rw [← h2, drop_gt hi, idxF, if_pos (by simp [hb])]
  · have hi : i < l.length := by omega
    exact ⟨i + 1, ⟨by omega, by rw [← h2, drop_gt hi, idxF, if_neg (by simp [hb])]⟩, by omega, wk_le (by simp only [go_sem, Bool.not_not, List.mem_singleton, forall_eq, ↓reduceIte, if_pos, rowsAt_map, wrap64, wrapu8, List.getElem?_cons_zero, List.getElem?_cons_succ, Int.reduceToNat, Nat.reduceAdd, Nat.reduceBEq, Bool.or_false, Bool.false_or, Bool.true_or, Nat.reduceSub, Nat.reduceMul, Int.reduceAdd, Int.reduceEq, Int.reduceLT, Int.reduceLE, Int.reduceNeg, Nat.reduceLT, Nat.reduceLeDiff]; simp) (by simp only [go_sem])⟩
  · have hi : i = l.length := by omega
    subst hi
    rw [← h2, List.drop_length, idxF]
theorem idxF_none {α : Type} {p : α → Bool} : ∀ {l : List α} {i : Nat}, 0 ≤ idxF p l i ↔ ∃ x ∈ l, p x = true
  | [], i => by simp [idxF]
  | x :: l, i => by
    simp only [idxF, List.mem_cons, exists_eq_or_imp]
    split
    · rename_i h; simp [h]
    · rename_i h; rw [idxF_none]; simp [h]
theorem contains_ok (l : List Str) (s : Str) (hl : l.length < 1000) : AFn env 64 [aF (l.map sRow), aS s] [] (aB (decide (s ∈ l))) [] := by
  refine afn_body Tryd.func64 rfl (by decide) ?_
  simp only [Tryd.ntmps64, Tryd.results64, List.length_cons, List.length_nil, List.cons_append, List.nil_append, Nat.reduceAdd, Nat.reduceSub, List.replicate]
  repeat' first
  | with_reducible refine awp_seq ?_
  | ((with_reducible refine awp_region ?_); refine zS ?_)
  | ((with_reducible refine Gd_nd ?_ ?_) <;> intro hb hb2 <;> first | contradiction | (exfalso; omega) | (refine zH hb2 ?_; try clear hb2))
  | ((with_reducible refine Gd_nb ?_ ?_) <;> intro hb <;> first | contradiction | refine zH hb ?_)
  | ((with_reducible refine Gd_d ?_ ?_) <;> intro hb hb2 <;> first | contradiction | (exfalso; omega) | (refine zH hb2 ?_; try clear hb2))
  | ((with_reducible refine Gd_b ?_ ?_) <;> intro hb <;> first | contradiction | refine zH hb ?_)
  | ((with_reducible refine Res_id ?_); refine zS ?_)
  | ((with_reducible refine awp_drawnC ?_ ?_); rfl; refine zS ?_)
  | ((with_reducible refine awp_drawnA ?_ ?_); rfl; refine zS ?_)
  | ((with_reducible refine CGd_nd ?_ ?_) <;> intro hb hb2 <;> first | contradiction | (exfalso; omega) | (refine zH hb2 ?_; try clear hb2))
  | ((with_reducible refine CGd_nb ?_ ?_) <;> intro hb <;> first | contradiction | refine zH hb ?_)
  | ((with_reducible refine CGd_d ?_ ?_) <;> intro hb hb2 <;> first | contradiction | (exfalso; omega) | (refine zH hb2 ?_; try clear hb2))
  | ((with_reducible refine CGd_b ?_ ?_) <;> intro hb <;> first | contradiction | refine zH hb ?_)
  | ((with_reducible refine CRes_id ?_); refine zS ?_)
  | ((with_reducible refine DStep_id ?_); refine zdP ?_; refine ⟨_, by first | exact index_ok _ _ (by assumption) | fail, fun _ => rfl, fun _ => rfl, rfl, (fun h => by first | cases h | fail), ?_⟩; try refine zS ?_)
  | ((with_reducible refine DStep_id ?_); refine zdW ?_; refine ⟨_, by first | exact index_ok _ _ (by assumption) | fail, fun _ => rfl, fun _ => rfl, rfl, ?_⟩; try refine zS ?_)
  | ((with_reducible refine AWP_c ?_); refine zcdT ?_)
  | ((with_reducible refine AWP_c ?_); refine zcdF ?_)
  | ((with_reducible refine AWP_c ?_); refine zcdN ?_ ?_ <;> intro hb hb2 <;> first | contradiction | (exfalso; omega) | ((try refine zH hb2 ?_); try clear hb2))
  | ((with_reducible refine AWP_c ?_); refine zcdD ?_ ?_ <;> intro hb hb2 <;> first | contradiction | (exfalso; omega) | ((try refine zH hb2 ?_); try clear hb2))
  | ((with_reducible refine AWP_c ?_); refine zcdM ?_ ?_ <;> intro hb <;> first | contradiction | (try refine zH hb ?_))
  | ((with_reducible refine AWP_c ?_); refine zcdB ?_ ?_ <;> intro hb <;> first | contradiction | (try refine zH hb ?_))
  | ((with_reducible refine awp_ret ?_); refine fin_r ?_)
  | ((with_reducible refine awp_ret ?_); refine fin_q ?_ ?_)
  | with_reducible refine fin_qn ?_ ?_
  | ((with_reducible refine awp_skip ?_); refine zS ?_)
  | with_reducible refine awp_block ?_
  | ((with_reducible refine awp_exit ?_); refine zS ?_)
  | ((with_reducible refine CallK_id ?_); refine zcF ?_; refine ⟨_, by first | exact index_ok _ _ (by assumption) | fail, fun _ => rfl, fun _ => rfl, rfl, ?_⟩; try refine zS ?_)
  | exact True.intro
  | fail
  have : idxF (fun x => decide (s = x)) l 0 ≥ 0 ↔ s ∈ l := by rw [ge_iff_le, idxF_none]; simp
  simp [go_sem, this]
def keyw : List Str := [[97, 110, 100], [111, 114], [110, 111, 116]]
def kindF (s : Str) : Int :=
  if s ∈ keyw then 3 else if pfx s [36] = true then (if (numberF (s.drop 1)).2 = true ∧ (numberF (s.drop 1)).1 < 4 then 2 else 0)
  else if (numberF s).2 = true then 1 else 0
theorem kind_ok (s : Str) : AFn env 34 [aS s] [] (aI (kindF s)) [] := by
  refine afn_body Tryd.func34 rfl (by decide) ?_
  simp only [Tryd.ntmps34, Tryd.results34, List.length_cons, List.length_nil, List.cons_append, List.nil_append, Nat.reduceAdd, Nat.reduceSub, List.replicate]
  repeat' first
  | with_reducible refine awp_seq ?_
  | ((with_reducible refine awp_region ?_); refine zS ?_)
  | ((with_reducible refine Gd_nd ?_ ?_) <;> intro hb hb2 <;> first | contradiction | (exfalso; omega) | (refine zH hb2 ?_; try clear hb2))
  | ((with_reducible refine Gd_nb ?_ ?_) <;> intro hb <;> first | contradiction | refine zH hb ?_)
  | ((with_reducible refine Gd_d ?_ ?_) <;> intro hb hb2 <;> first | contradiction | (exfalso; omega) | (refine zH hb2 ?_; try clear hb2))
  | ((with_reducible refine Gd_b ?_ ?_) <;> intro hb <;> first | contradiction | refine zH hb ?_)
  | ((with_reducible refine Res_id ?_); refine zS ?_)
  | ((with_reducible refine awp_drawnC ?_ ?_); rfl; refine zS ?_)
  | ((with_reducible refine awp_drawnA ?_ ?_); rfl; refine zS ?_)
  | ((with_reducible refine CGd_nd ?_ ?_) <;> intro hb hb2 <;> first | contradiction | (exfalso; omega) | (refine zH hb2 ?_; try clear hb2))
  | ((with_reducible refine CGd_nb ?_ ?_) <;> intro hb <;> first | contradiction | refine zH hb ?_)
  | ((with_reducible refine CGd_d ?_ ?_) <;> intro hb hb2 <;> first | contradiction | (exfalso; omega) | (refine zH hb2 ?_; try clear hb2))
  | ((with_reducible refine CGd_b ?_ ?_) <;> intro hb <;> first | contradiction | refine zH hb ?_)
  | ((with_reducible refine CRes_id ?_); refine zS ?_)
  | ((with_reducible refine DStep_id ?_); refine zdP ?_; refine ⟨_, by first | exact contains_ok [[97, 110, 100], [111, 114], [110, 111, 116]] _ (by decide) | exact cutPrefix_ok _ [36] | exact number_ok _ | fail, fun _ => rfl, fun _ => rfl, rfl, (fun h => by first | cases h | fail), ?_⟩; try refine zS ?_)
  | ((with_reducible refine DStep_id ?_); refine zdW ?_; refine ⟨_, by first | exact contains_ok [[97, 110, 100], [111, 114], [110, 111, 116]] _ (by decide) | exact cutPrefix_ok _ [36] | exact number_ok _ | fail, fun _ => rfl, fun _ => rfl, rfl, ?_⟩; try refine zS ?_)
  | ((with_reducible refine AWP_c ?_); refine zcdT ?_)
  | ((with_reducible refine AWP_c ?_); refine zcdF ?_)
  | ((with_reducible refine AWP_c ?_); refine zcdN ?_ ?_ <;> intro hb hb2 <;> first | contradiction | (exfalso; omega) | ((try refine zH hb2 ?_); try clear hb2))
  | ((with_reducible refine AWP_c ?_); refine zcdD ?_ ?_ <;> intro hb hb2 <;> first | contradiction | (exfalso; omega) | ((try refine zH hb2 ?_); try clear hb2))
  | ((with_reducible refine AWP_c ?_); refine zcdM ?_ ?_ <;> intro hb <;> first | contradiction | (try refine zH hb ?_))
  | ((with_reducible refine AWP_c ?_); refine zcdB ?_ ?_ <;> intro hb <;> first | contradiction | (try refine zH hb ?_))
  | ((with_reducible refine awp_ret ?_); refine fin_r ?_)
  | ((with_reducible refine awp_ret ?_); refine fin_q ?_ ?_)
  | with_reducible refine fin_qn ?_ ?_
  | ((with_reducible refine awp_skip ?_); refine zS ?_)
  | with_reducible refine awp_block ?_
  | ((with_reducible refine awp_exit ?_); refine zS ?_)
  | ((with_reducible refine CallK_id ?_); refine zcF ?_; refine ⟨_, by first | exact contains_ok [[97, 110, 100], [111, 114], [110, 111, 116]] _ (by decide) | exact cutPrefix_ok _ [36] | exact number_ok _ | fail, fun _ => rfl, fun _ => rfl, rfl, ?_⟩; try refine zS ?_)
  | exact True.intro
  | fail
  all_goals simp_all [go_sem, kindF, keyw, pfx]
end Go.Eng
open Go Go.Proofs
namespace Go.Eng
set_option linter.unusedSimpArgs false
set_option linter.unusedVariables false
set_option maxRecDepth 100000
set_option maxHeartbeats 8000000

theorem first1_ok (x s : Str) : AFn env 36 [aS x, .c (.ptr 0 0 0 0)] [some (.box [.d (dS s)])] (aB (pfx s x)) [some (.box [.d (dS s)])] := by
  refine afn_body Tryd.func36 rfl (by decide) ?_
  simp only [Tryd.ntmps36, Tryd.results36, List.length_cons, List.length_nil, List.cons_append, List.nil_append, Nat.reduceAdd, Nat.reduceSub, List.replicate]
  repeat' first
  | with_reducible refine awp_seq ?_
  | ((with_reducible refine awp_region ?_); refine zS ?_)
  | ((with_reducible refine Gd_nd ?_ ?_) <;> intro hb hb2 <;> first | contradiction | (exfalso; omega) | (refine zH hb2 ?_; try clear hb2))
  | ((with_reducible refine Gd_nb ?_ ?_) <;> intro hb <;> first | contradiction | refine zH hb ?_)
  | ((with_reducible refine Gd_d ?_ ?_) <;> intro hb hb2 <;> first | contradiction | (exfalso; omega) | (refine zH hb2 ?_; try clear hb2))
  | ((with_reducible refine Gd_b ?_ ?_) <;> intro hb <;> first | contradiction | refine zH hb ?_)
  | ((with_reducible refine Res_id ?_); refine zS ?_)
  | ((with_reducible refine awp_drawnC ?_ ?_); rfl; refine zS ?_)
  | ((with_reducible refine awp_drawnA ?_ ?_); rfl; refine zS ?_)
  | ((with_reducible refine CGd_nd ?_ ?_) <;> intro hb hb2 <;> first | contradiction | (exfalso; omega) | (refine zH hb2 ?_; try clear hb2))
  | ((with_reducible refine CGd_nb ?_ ?_) <;> intro hb <;> first | contradiction | refine zH hb ?_)
  | ((with_reducible refine CGd_d ?_ ?_) <;> intro hb hb2 <;> first | contradiction | (exfalso; omega) | (refine zH hb2 ?_; try clear hb2))
  | ((with_reducible refine CGd_b ?_ ?_) <;> intro hb <;> first | contradiction | refine zH hb ?_)
  | ((with_reducible refine CRes_id ?_); refine zS ?_)
  | ((with_reducible refine DStep_id ?_); refine zdP ?_; refine ⟨_, by first | exact hasPrefix_ok _ _ | fail, fun _ => rfl, fun _ => rfl, rfl, (fun h => by first | cases h | fail), ?_⟩; try refine zS ?_)
  | ((with_reducible refine DStep_id ?_); refine zdW ?_; refine ⟨_, by first | exact hasPrefix_ok _ _ | fail, fun _ => rfl, fun _ => rfl, rfl, ?_⟩; try refine zS ?_)
  | ((with_reducible refine AWP_c ?_); refine zcdT ?_)
  | ((with_reducible refine AWP_c ?_); refine zcdF ?_)
  | ((with_reducible refine AWP_c ?_); refine zcdN ?_ ?_ <;> intro hb hb2 <;> first | contradiction | (exfalso; omega) | ((try refine zH hb2 ?_); try clear hb2))
  | ((with_reducible refine AWP_c ?_); refine zcdD ?_ ?_ <;> intro hb hb2 <;> first | contradiction | (exfalso; omega) | ((try refine zH hb2 ?_); try clear hb2))
  | ((with_reducible refine AWP_c ?_); refine zcdM ?_ ?_ <;> intro hb <;> first | contradiction | (try refine zH hb ?_))
  | ((with_reducible refine AWP_c ?_); refine zcdB ?_ ?_ <;> intro hb <;> first | contradiction | (try refine zH hb ?_))
  | ((with_reducible refine awp_ret ?_); refine fin_r ?_)
  | ((with_reducible refine awp_ret ?_); refine fin_q ?_ ?_)
  | with_reducible refine fin_qn ?_ ?_
  | ((with_reducible refine awp_skip ?_); refine zS ?_)
  | with_reducible refine awp_block ?_
  | ((with_reducible refine awp_exit ?_); refine zS ?_)
  | ((with_reducible refine CallK_id ?_); refine zcF ?_; refine ⟨_, by first | exact hasPrefix_ok _ _ | fail, fun _ => rfl, fun _ => rfl, rfl, ?_⟩; try refine zS ?_)
  | exact True.intro
  | fail
  all_goals rfl
theorem indexFunc_ok (l : List Str) (f : FuncId) (p : Str → Bool) (d : D) (hp : ∀ x, AFn env f [aS x, .c (.ptr 0 0 0 0)] [some (.box [.d d])] (aB (p x)) [some (.box [.d d])]) (hl : l.length < 1000) :
    AFn env 35 [aF (l.map sRow), .c (.clo (.func f) [.ptr 0 0 0 0])] [some (.box [.d d])] (aI (idxF p l 0)) [some (.box [.d d])] := by
  refine afn_body Tryd.func35 rfl (by decide) ?_
  simp only [Tryd.ntmps35, Tryd.results35, List.length_cons, List.length_nil, List.cons_append, List.nil_append, Nat.reduceAdd, Nat.reduceSub, List.replicate]
  repeat' first
  | with_reducible refine awp_seq ?_
  | ((with_reducible refine awp_region ?_); refine zS ?_)
  | ((with_reducible refine Gd_nd ?_ ?_) <;> intro hb hb2 <;> first | contradiction | (exfalso; omega) | (refine zH hb2 ?_; try clear hb2))
  | ((with_reducible refine Gd_nb ?_ ?_) <;> intro hb <;> first | contradiction | refine zH hb ?_)
  | ((with_reducible refine Gd_d ?_ ?_) <;> intro hb hb2 <;> first | contradiction | (exfalso; omega) | (refine zH hb2 ?_; try clear hb2))
  | ((with_reducible refine Gd_b ?_ ?_) <;> intro hb <;> first | contradiction | refine zH hb ?_)
  | ((with_reducible refine Res_id ?_); refine zS ?_)
  | ((with_reducible refine awp_drawnC ?_ ?_); rfl; refine zS ?_)
  | ((with_reducible refine awp_drawnA ?_ ?_); rfl; refine zS ?_)
  | ((with_reducible refine CGd_nd ?_ ?_) <;> intro hb hb2 <;> first | contradiction | (exfalso; omega) | (refine zH hb2 ?_; try clear hb2))
  | ((with_reducible refine CGd_nb ?_ ?_) <;> intro hb <;> first | contradiction | refine zH hb ?_)
  | ((with_reducible refine CGd_d ?_ ?_) <;> intro hb hb2 <;> first | contradiction | (exfalso; omega) | (refine zH hb2 ?_; try clear hb2))
  | ((with_reducible refine CGd_b ?_ ?_) <;> intro hb <;> first | contradiction | refine zH hb ?_)
  | ((with_reducible refine CRes_id ?_); refine zS ?_)
  | ((with_reducible refine DStep_id ?_); refine zdP ?_; refine ⟨_, by first  | fail, fun _ => rfl, fun _ => rfl, rfl, (fun h => by first | cases h | fail), ?_⟩; try refine zS ?_)
  | ((with_reducible refine DStep_id ?_); refine zdW ?_; refine ⟨_, by first  | fail, fun _ => rfl, fun _ => rfl, rfl, ?_⟩; try refine zS ?_)
  | ((with_reducible refine DStep_id ?_); refine zdT [0] ?_; refine ⟨_, _, by first | exact hp _ | fail, ?_⟩; try refine zS ?_)
  | ((with_reducible refine AWP_c ?_); refine zcdT ?_)
  | ((with_reducible refine AWP_c ?_); refine zcdF ?_)
  | ((with_reducible refine AWP_c ?_); refine zcdN ?_ ?_ <;> intro hb hb2 <;> first | contradiction | (exfalso; omega) | ((try refine zH hb2 ?_); try clear hb2))
  | ((with_reducible refine AWP_c ?_); refine zcdD ?_ ?_ <;> intro hb hb2 <;> first | contradiction | (exfalso; omega) | ((try refine zH hb2 ?_); try clear hb2))
  | ((with_reducible refine AWP_c ?_); refine zcdM ?_ ?_ <;> intro hb <;> first | contradiction | (try refine zH hb ?_))
  | ((with_reducible refine AWP_c ?_); refine zcdB ?_ ?_ <;> intro hb <;> first | contradiction | (try refine zH hb ?_))
  | ((with_reducible refine awp_ret ?_); refine fin_r ?_)
  | ((with_reducible refine awp_ret ?_); refine fin_q ?_ ?_)
  | with_reducible refine fin_qn ?_ ?_
  | ((with_reducible refine awp_skip ?_); refine zS ?_)
  | with_reducible refine awp_block ?_
  | ((with_reducible refine awp_exit ?_); refine zS ?_)
  | ((with_reducible refine CallK_id ?_); refine zcF ?_; refine ⟨_, by first  | fail, fun _ => rfl, fun _ => rfl, rfl, ?_⟩; try refine zS ?_)
  | ((with_reducible refine CallK_id ?_); refine zcT [0] ?_; refine ⟨_, _, by first | exact hp _ | fail, ?_⟩; try refine zS ?_)
  | exact True.intro
  | fail
  refine awp_loopT (fun i : Nat => i ≤ l.length ∧ idxF p (l.drop i) i = idxF p l 0) (fun i => l.length - i) (fun i => [(8, aI i)]) (fun _ => [some (.box [.d d])]) 0 ⟨by omega, rfl⟩ (wk_le (by simp only [go_sem, Bool.not_not, List.mem_singleton, forall_eq, ↓reduceIte, if_pos, rowsAt_map, wrap64, wrapu8, List.getElem?_cons_zero, List.getElem?_cons_succ, Int.reduceToNat, Nat.reduceAdd, Nat.reduceBEq, Bool.or_false, Bool.false_or, Bool.true_or, Nat.reduceSub, Nat.reduceMul, Int.reduceAdd, Int.reduceEq, Int.reduceLT, Int.reduceLE, Int.reduceNeg, Nat.reduceLT, Nat.reduceLeDiff]; simp) (by simp only [go_sem])) ?_
  rintro i ⟨h1, h2⟩
  simp only [go_sem]
  repeat' first
  | with_reducible refine awp_seq ?_
  | ((with_reducible refine awp_region ?_); refine zS ?_)
  | ((with_reducible refine Gd_nd ?_ ?_) <;> intro hb hb2 <;> first | contradiction | (exfalso; omega) | (refine zH hb2 ?_; try clear hb2))
  | ((with_reducible refine Gd_nb ?_ ?_) <;> intro hb <;> first | contradiction | refine zH hb ?_)
  | ((with_reducible refine Gd_d ?_ ?_) <;> intro hb hb2 <;> first | contradiction | (exfalso; omega) | (refine zH hb2 ?_; try clear hb2))
  | ((with_reducible refine Gd_b ?_ ?_) <;> intro hb <;> first | contradiction | refine zH hb ?_)
  | ((with_reducible refine Res_id ?_); refine zS ?_)
  | ((with_reducible refine awp_drawnC ?_ ?_); rfl; refine zS ?_)
  | ((with_reducible refine awp_drawnA ?_ ?_); rfl; refine zS ?_)
  | ((with_reducible refine CGd_nd ?_ ?_) <;> intro hb hb2 <;> first | contradiction | (exfalso; omega) | (refine zH hb2 ?_; try clear hb2))
  | ((with_reducible refine CGd_nb ?_ ?_) <;> intro hb <;> first | contradiction | refine zH hb ?_)
  | ((with_reducible refine CGd_d ?_ ?_) <;> intro hb hb2 <;> first | contradiction | (exfalso; omega) | (refine zH hb2 ?_; try clear hb2))
  | ((with_reducible refine CGd_b ?_ ?_) <;> intro hb <;> first | contradiction | refine zH hb ?_)
  | ((with_reducible refine CRes_id ?_); refine zS ?_)
  | ((with_reducible refine DStep_id ?_); refine zdP ?_; refine ⟨_, by first  | fail, fun _ => rfl, fun _ => rfl, rfl, (fun h => by first | cases h | fail), ?_⟩; try refine zS ?_)
  | ((with_reducible refine DStep_id ?_); refine zdW ?_; refine ⟨_, by first  | fail, fun _ => rfl, fun _ => rfl, rfl, ?_⟩; try refine zS ?_)
  | ((with_reducible refine DStep_id ?_); refine zdT [0] ?_; refine ⟨_, _, by first | exact hp _ | fail, ?_⟩; try refine zS ?_)
  | ((with_reducible refine AWP_c ?_); refine zcdT ?_)
  | ((with_reducible refine AWP_c ?_); refine zcdF ?_)
  | ((with_reducible refine AWP_c ?_); refine zcdN ?_ ?_ <;> intro hb hb2 <;> first | contradiction | (exfalso; omega) | ((try refine zH hb2 ?_); try clear hb2))
  | ((with_reducible refine AWP_c ?_); refine zcdD ?_ ?_ <;> intro hb hb2 <;> first | contradiction | (exfalso; omega) | ((try refine zH hb2 ?_); try clear hb2))
  | ((with_reducible refine AWP_c ?_); refine zcdM ?_ ?_ <;> intro hb <;> first | contradiction | (try refine zH hb ?_))
  | ((with_reducible refine AWP_c ?_); refine zcdB ?_ ?_ <;> intro hb <;> first | contradiction | (try refine zH hb ?_))
  | ((with_reducible refine awp_ret ?_); refine fin_r ?_)
  | ((with_reducible refine awp_ret ?_); refine fin_q ?_ ?_)
  | with_reducible refine fin_qn ?_ ?_
  | ((with_reducible refine awp_skip ?_); refine zS ?_)
  | with_reducible refine awp_block ?_
  | ((with_reducible refine awp_exit ?_); refine zS ?_)
  | ((with_reducible refine CallK_id ?_); refine zcF ?_; refine ⟨_, by first  | fail, fun _ => rfl, fun _ => rfl, rfl, ?_⟩; try refine zS ?_)
  | ((with_reducible refine CallK_id ?_); refine zcT [0] ?_; refine ⟨_, _, by first | exact hp _ | fail, ?_⟩; try refine zS ?_)
  | exact True.intro
  | fail
  · have hi : i < l.length := by omega
    rw [← h2, drop_gt hi, idxF, if_pos (by simp [hb])]
  · have hi : i < l.length := by omega
    exact ⟨i + 1, ⟨by omega, by rw [← h2, drop_gt hi, idxF, if_neg (by simp [hb])]⟩, by omega, wk_le (by simp only [go_sem, Bool.not_not, List.mem_singleton, forall_eq, ↓reduceIte, if_pos, rowsAt_map, wrap64, wrapu8, List.getElem?_cons_zero, List.getElem?_cons_succ, Int.reduceToNat, Nat.reduceAdd, Nat.reduceBEq, Bool.or_false, Bool.false_or, Bool.true_or, Nat.reduceSub, Nat.reduceMul, Int.reduceAdd, Int.reduceEq, Int.reduceLT, Int.reduceLE, Int.reduceNeg, Nat.reduceLT, Nat.reduceLeDiff]; simp) (by simp only [go_sem])⟩
  · have hi : i = l.length := by omega
    subst hi
    rw [← h2, List.drop_length, idxF]
def joinN : Str → Nat
  | [] => 0
  | c :: l => if joinedF c.toNat = true then joinN l + 1 else 0
theorem joinN_le : ∀ s : Str, joinN s ≤ s.length
  | [] => by simp [joinN]
  | c :: l => by have := joinN_le l; simp only [joinN, List.length_cons]; split <;> omega
def firstF (s : Str) : Tok :=
  if 0 < joinN s then ⟨kindF (s.take (joinN s)), 0, s.take (joinN s)⟩
  else if idxF (fun x => pfx s x) signs 0 < 0 then ⟨0, 0, []⟩ else ⟨4, 0, gt signs (idxF (fun x => pfx s x) signs 0).toNat⟩
theorem idxF_lt {α : Type} {p : α → Bool} : ∀ {l : List α} {i : Nat}, idxF p l i < i + l.length ∧ (0 ≤ idxF p l i → i ≤ idxF p l i)
  | [], i => by simp [idxF]; omega
  | x :: l, i => by
    simp only [idxF, List.length_cons]
    split
    · omega
    · have := idxF_lt (p := p) (l := l) (i := i + 1); omega
theorem idxF_p {α : Type} [Inhabited α] {p : α → Bool} : ∀ {l : List α} {i : Nat}, 0 ≤ idxF p l i → p (gt l (idxF p l i - i).toNat) = true
  | [], i, h => by simp [idxF] at h
  | x :: l, i, h => by
    simp only [idxF] at h ⊢
    split
    · rename_i hp; simpa [gt] using hp
    · rename_i hp
      rw [if_neg hp] at h
      have h1 := (idxF_lt (p := p) (l := l) (i := i + 1)).2 h
      have h2 := idxF_p h
      have e : (idxF p l (i + 1) - i).toNat = (idxF p l (i + 1) - (i + 1 : Nat)).toNat + 1 := by omega
      rw [e]
      simpa [gt] using h2
theorem first_ok (s : Str) (hs : s.length < 100000) : AFn env 20 [aS s] [] (firstF s).a [] := by
  have hsl : signs.length = 13 := rfl
  have hj := joinN_le s
  have hx := (idxF_lt (p := fun x => pfx s x) (l := signs) (i := 0)).1
  refine afn_body Tryd.func20 rfl (by decide) ?_
  simp only [Tryd.ntmps20, Tryd.results20, List.length_cons, List.length_nil, List.cons_append, List.nil_append, Nat.reduceAdd, Nat.reduceSub, List.replicate]
  repeat' first
  | with_reducible refine awp_seq ?_
  | ((with_reducible refine awp_region ?_); refine zS ?_)
  | ((with_reducible refine Gd_nd ?_ ?_) <;> intro hb hb2 <;> first | contradiction | (exfalso; omega) | (refine zH hb2 ?_; try clear hb2))
  | ((with_reducible refine Gd_nb ?_ ?_) <;> intro hb <;> first | contradiction | refine zH hb ?_)
  | ((with_reducible refine Gd_d ?_ ?_) <;> intro hb hb2 <;> first | contradiction | (exfalso; omega) | (refine zH hb2 ?_; try clear hb2))
  | ((with_reducible refine Gd_b ?_ ?_) <;> intro hb <;> first | contradiction | refine zH hb ?_)
  | ((with_reducible refine Res_id ?_); refine zS ?_)
  | ((with_reducible refine awp_drawnC ?_ ?_); rfl; refine zS ?_)
  | ((with_reducible refine awp_drawnA ?_ ?_); rfl; refine zS ?_)
  | ((with_reducible refine CGd_nd ?_ ?_) <;> intro hb hb2 <;> first | contradiction | (exfalso; omega) | (refine zH hb2 ?_; try clear hb2))
  | ((with_reducible refine CGd_nb ?_ ?_) <;> intro hb <;> first | contradiction | refine zH hb ?_)
  | ((with_reducible refine CGd_d ?_ ?_) <;> intro hb hb2 <;> first | contradiction | (exfalso; omega) | (refine zH hb2 ?_; try clear hb2))
  | ((with_reducible refine CGd_b ?_ ?_) <;> intro hb <;> first | contradiction | refine zH hb ?_)
  | ((with_reducible refine CRes_id ?_); refine zS ?_)
  | ((with_reducible refine DStep_id ?_); refine zdP ?_; refine ⟨_, by first | exact joined_ok _ | exact kind_ok _ | fail, fun _ => rfl, fun _ => rfl, rfl, (fun h => by first | cases h | fail), ?_⟩; try refine zS ?_)
  | ((with_reducible refine DStep_id ?_); refine zdW ?_; refine ⟨_, by first | exact joined_ok _ | exact kind_ok _ | fail, fun _ => rfl, fun _ => rfl, rfl, ?_⟩; try refine zS ?_)
  | ((with_reducible refine DStep_id ?_); refine zdT [0] ?_; refine ⟨_, _, by first | exact indexFunc_ok signs 36 (fun x => pfx s x) (dS s) (fun x => first1_ok x s) (by decide) | fail, ?_⟩; try refine zS ?_)
  | ((with_reducible refine AWP_c ?_); refine zcdT ?_)
  | ((with_reducible refine AWP_c ?_); refine zcdF ?_)
  | ((with_reducible refine AWP_c ?_); refine zcdN ?_ ?_ <;> intro hb hb2 <;> first | contradiction | (exfalso; omega) | ((try refine zH hb2 ?_); try clear hb2))
  | ((with_reducible refine AWP_c ?_); refine zcdD ?_ ?_ <;> intro hb hb2 <;> first | contradiction | (exfalso; omega) | ((try refine zH hb2 ?_); try clear hb2))
  | ((with_reducible refine AWP_c ?_); refine zcdM ?_ ?_ <;> intro hb <;> first | contradiction | (try refine zH hb ?_))
  | ((with_reducible refine AWP_c ?_); refine zcdB ?_ ?_ <;> intro hb <;> first | contradiction | (try refine zH hb ?_))
  | ((with_reducible refine awp_ret ?_); refine fin_r ?_)
  | ((with_reducible refine awp_ret ?_); refine fin_q ?_ ?_)
  | with_reducible refine fin_qn ?_ ?_
  | ((with_reducible refine awp_skip ?_); refine zS ?_)
  | ((with_reducible refine awp_exit ?_); refine zS ?_)
  | ((with_reducible refine CallK_id ?_); refine zcF ?_; refine ⟨_, by first | exact joined_ok _ | exact kind_ok _ | fail, fun _ => rfl, fun _ => rfl, rfl, ?_⟩; try refine zS ?_)
  | ((with_reducible refine CallK_id ?_); refine zcT [0] ?_; refine ⟨_, _, by first | exact indexFunc_ok signs 36 (fun x => pfx s x) (dS s) (fun x => first1_ok x s) (by decide) | fail, ?_⟩; try refine zS ?_)
  | exact True.intro
  | fail
  refine awp_cutS (fun _ : Unit => True) (fun _ => [(3, aI (joinN s))]) (fun _ => [some (.box [.d (dS s)]), some (.box [.d (dI 0), .d (dI 0), .d (dS [])])]) ?_ ?_
  · refine awp_block ?_
    refine awp_loopT (fun i : Nat => i ≤ s.length ∧ joinN s = i + joinN (s.drop i)) (fun i => s.length - i) (fun i => [(3, aI i)]) (fun _ => [some (.box [.d (dS s)]), some (.box [.d (dI 0), .d (dI 0), .d (dS [])])]) 0 ⟨by omega, by simp⟩ (wk_le (by simp only [go_sem, Bool.not_not, List.mem_singleton, forall_eq, ↓reduceIte, if_pos, rowsAt_map, wrap64, wrapu8, List.getElem?_cons_zero, List.getElem?_cons_succ, Int.reduceToNat, Nat.reduceAdd, Nat.reduceBEq, Bool.or_false, Bool.false_or, Bool.true_or, Nat.reduceSub, Nat.reduceMul, Int.reduceAdd, Int.reduceEq, Int.reduceLT, Int.reduceLE, Int.reduceNeg, Nat.reduceLT, Nat.reduceLeDiff]; simp) (by simp only [go_sem]; first | done | rfl)) ?_
    rintro i ⟨h1, h2⟩
    simp only [go_sem]
    repeat' first
    | with_reducible refine awp_seq ?_
    | ((with_reducible refine awp_region ?_); refine zS ?_)
    | ((with_reducible refine Gd_nd ?_ ?_) <;> intro hb hb2 <;> first | contradiction | (exfalso; omega) | (refine zH hb2 ?_; try clear hb2))
    | ((with_reducible refine Gd_nb ?_ ?_) <;> intro hb <;> first | contradiction | refine zH hb ?_)
    | ((with_reducible refine Gd_d ?_ ?_) <;> intro hb hb2 <;> first | contradiction | (exfalso; omega) | (refine zH hb2 ?_; try clear hb2))
    | ((with_reducible refine Gd_b ?_ ?_) <;> intro hb <;> first | contradiction | refine zH hb ?_)
    | ((with_reducible refine Res_id ?_); refine zS ?_)
    | ((with_reducible refine awp_drawnC ?_ ?_); rfl; refine zS ?_)
    | ((with_reducible refine awp_drawnA ?_ ?_); rfl; refine zS ?_)
    | ((with_reducible refine CGd_nd ?_ ?_) <;> intro hb hb2 <;> first | contradiction | (exfalso; omega) | (refine zH hb2 ?_; try clear hb2))
    | ((with_reducible refine CGd_nb ?_ ?_) <;> intro hb <;> first | contradiction | refine zH hb ?_)
    | ((with_reducible refine CGd_d ?_ ?_) <;> intro hb hb2 <;> first | contradiction | (exfalso; omega) | (refine zH hb2 ?_; try clear hb2))
    | ((with_reducible refine CGd_b ?_ ?_) <;> intro hb <;> first | contradiction | refine zH hb ?_)
    | ((with_reducible refine CRes_id ?_); refine zS ?_)
    | ((with_reducible refine DStep_id ?_); refine zdP ?_; refine ⟨_, by first | exact joined_ok _ | exact kind_ok _ | fail, fun _ => rfl, fun _ => rfl, rfl, (fun h => by first | cases h | fail), ?_⟩; try refine zS ?_)
    | ((with_reducible refine DStep_id ?_); refine zdW ?_; refine ⟨_, by first | exact joined_ok _ | exact kind_ok _ | fail, fun _ => rfl, fun _ => rfl, rfl, ?_⟩; try refine zS ?_)
    | ((with_reducible refine DStep_id ?_); refine zdT [0] ?_; refine ⟨_, _, by first | exact indexFunc_ok signs 36 (fun x => pfx s x) (dS s) (fun x => first1_ok x s) (by decide) | fail, ?_⟩; try refine zS ?_)
    | ((with_reducible refine AWP_c ?_); refine zcdT ?_)
    | ((with_reducible refine AWP_c ?_); refine zcdF ?_)
    | ((with_reducible refine AWP_c ?_); refine zcdN ?_ ?_ <;> intro hb hb2 <;> first | contradiction | (exfalso; omega) | ((try refine zH hb2 ?_); try clear hb2))
    | ((with_reducible refine AWP_c ?_); refine zcdD ?_ ?_ <;> intro hb hb2 <;> first | contradiction | (exfalso; omega) | ((try refine zH hb2 ?_); try clear hb2))
    | ((with_reducible refine AWP_c ?_); refine zcdM ?_ ?_ <;> intro hb <;> first | contradiction | (try refine zH hb ?_))
    | ((with_reducible refine AWP_c ?_); refine zcdB ?_ ?_ <;> intro hb <;> first | contradiction | (try refine zH hb ?_))
    | ((with_reducible refine awp_ret ?_); refine fin_r ?_)
    | ((with_reducible refine awp_ret ?_); refine fin_q ?_ ?_)
    | with_reducible refine fin_qn ?_ ?_
    | ((with_reducible refine awp_skip ?_); refine zS ?_)
    | with_reducible refine awp_block ?_
    | ((with_reducible refine awp_exit ?_); refine zS ?_)
    | ((with_reducible refine CallK_id ?_); refine zcF ?_; refine ⟨_, by first | exact joined_ok _ | exact kind_ok _ | fail, fun _ => rfl, fun _ => rfl, rfl, ?_⟩; try refine zS ?_)
    | ((with_reducible refine CallK_id ?_); refine zcT [0] ?_; refine ⟨_, _, by first | exact indexFunc_ok signs 36 (fun x => pfx s x) (dS s) (fun x => first1_ok x s) (by decide) | fail, ?_⟩; try refine zS ?_)
    | exact True.intro
    | fail
    · have hi : i < s.length := by omega
      exact ⟨i + 1, ⟨by omega, by rw [h2, drop_gt hi, joinN, if_pos (by rw [← byteAt_gt, hb])]; omega⟩, by omega, wk_le (by simp only [go_sem, Bool.not_not, List.mem_singleton, forall_eq, ↓reduceIte, if_pos, rowsAt_map, wrap64, wrapu8, List.getElem?_cons_zero, List.getElem?_cons_succ, Int.reduceToNat, Nat.reduceAdd, Nat.reduceBEq, Bool.or_false, Bool.false_or, Bool.true_or, Nat.reduceSub, Nat.reduceMul, Int.reduceAdd, Int.reduceEq, Int.reduceLT, Int.reduceLE, Int.reduceNeg, Nat.reduceLT, Nat.reduceLeDiff]; simp) (by simp only [go_sem])⟩
    · have hi : i < s.length := by omega
      have e : joinN s = i := by rw [h2, drop_gt hi, joinN, if_neg (by rw [← byteAt_gt, hb]; simp)]; rfl
      exact ⟨(), wk_le (by simp only [go_sem, Bool.not_not, List.mem_singleton, forall_eq, ↓reduceIte, if_pos, rowsAt_map, wrap64, wrapu8, List.getElem?_cons_zero, List.getElem?_cons_succ, Int.reduceToNat, Nat.reduceAdd, Nat.reduceBEq, Bool.or_false, Bool.false_or, Bool.true_or, Nat.reduceSub, Nat.reduceMul, Int.reduceAdd, Int.reduceEq, Int.reduceLT, Int.reduceLE, Int.reduceNeg, Nat.reduceLT, Nat.reduceLeDiff]; simp [e]) (by simp only [go_sem])⟩
    · have hi : i = s.length := by omega
      have e : joinN s = i := by rw [h2, hi, List.drop_length, joinN]; rfl
      exact ⟨(), wk_le (by simp only [go_sem, Bool.not_not, List.mem_singleton, forall_eq, ↓reduceIte, if_pos, rowsAt_map, wrap64, wrapu8, List.getElem?_cons_zero, List.getElem?_cons_succ, Int.reduceToNat, Nat.reduceAdd, Nat.reduceBEq, Bool.or_false, Bool.false_or, Bool.true_or, Nat.reduceSub, Nat.reduceMul, Int.reduceAdd, Int.reduceEq, Int.reduceLT, Int.reduceLE, Int.reduceNeg, Nat.reduceLT, Nat.reduceLeDiff]; simp [e]) (by simp only [go_sem])⟩
  intro _ _
  refine zT ?_
  repeat' first
  | with_reducible refine awp_seq ?_
  | ((with_reducible refine awp_region ?_); refine zS ?_)
  | ((with_reducible refine Gd_nd ?_ ?_) <;> intro hb hb2 <;> first | contradiction | (exfalso; omega) | (refine zH hb2 ?_; try clear hb2))
  | ((with_reducible refine Gd_nb ?_ ?_) <;> intro hb <;> first | contradiction | refine zH hb ?_)
  | ((with_reducible refine Gd_d ?_ ?_) <;> intro hb hb2 <;> first | contradiction | (exfalso; omega) | (refine zH hb2 ?_; try clear hb2))
  | ((with_reducible refine Gd_b ?_ ?_) <;> intro hb <;> first | contradiction | refine zH hb ?_)
  | ((with_reducible refine Res_id ?_); refine zS ?_)
  | ((with_reducible refine awp_drawnC ?_ ?_); rfl; refine zS ?_)
  | ((with_reducible refine awp_drawnA ?_ ?_); rfl; refine zS ?_)
  | ((with_reducible refine CGd_nd ?_ ?_) <;> intro hb hb2 <;> first | contradiction | (exfalso; omega) | (refine zH hb2 ?_; try clear hb2))
  | ((with_reducible refine CGd_nb ?_ ?_) <;> intro hb <;> first | contradiction | refine zH hb ?_)
  | ((with_reducible refine CGd_d ?_ ?_) <;> intro hb hb2 <;> first | contradiction | (exfalso; omega) | (refine zH hb2 ?_; try clear hb2))
  | ((with_reducible refine CGd_b ?_ ?_) <;> intro hb <;> first | contradiction | refine zH hb ?_)
  | ((with_reducible refine CRes_id ?_); refine zS ?_)
  | ((with_reducible refine DStep_id ?_); refine zdP ?_; refine ⟨_, by first | exact joined_ok _ | exact kind_ok _ | fail, fun _ => rfl, fun _ => rfl, rfl, (fun h => by first | cases h | fail), ?_⟩; try refine zS ?_)
  | ((with_reducible refine DStep_id ?_); refine zdW ?_; refine ⟨_, by first | exact joined_ok _ | exact kind_ok _ | fail, fun _ => rfl, fun _ => rfl, rfl, ?_⟩; try refine zS ?_)
  | ((with_reducible refine DStep_id ?_); refine zdT [0] ?_; refine ⟨_, _, by first | exact indexFunc_ok signs 36 (fun x => pfx s x) (dS s) (fun x => first1_ok x s) (by decide) | fail, ?_⟩; try refine zS ?_)
  | ((with_reducible refine AWP_c ?_); refine zcdT ?_)
  | ((with_reducible refine AWP_c ?_); refine zcdF ?_)
  | ((with_reducible refine AWP_c ?_); refine zcdN ?_ ?_ <;> intro hb hb2 <;> first | contradiction | (exfalso; omega) | ((try refine zH hb2 ?_); try clear hb2))
  | ((with_reducible refine AWP_c ?_); refine zcdD ?_ ?_ <;> intro hb hb2 <;> first | contradiction | (exfalso; omega) | ((try refine zH hb2 ?_); try clear hb2))
  | ((with_reducible refine AWP_c ?_); refine zcdM ?_ ?_ <;> intro hb <;> first | contradiction | (try refine zH hb ?_))
  | ((with_reducible refine AWP_c ?_); refine zcdB ?_ ?_ <;> intro hb <;> first | contradiction | (try refine zH hb ?_))
  | ((with_reducible refine awp_ret ?_); refine fin_r ?_)
  | ((with_reducible refine awp_ret ?_); refine fin_q ?_ ?_)
  | with_reducible refine fin_qn ?_ ?_
  | ((with_reducible refine awp_skip ?_); refine zS ?_)
  | with_reducible refine awp_block ?_
  | ((with_reducible refine awp_exit ?_); refine zS ?_)
  | ((with_reducible refine CallK_id ?_); refine zcF ?_; refine ⟨_, by first | exact joined_ok _ | exact kind_ok _ | fail, fun _ => rfl, fun _ => rfl, rfl, ?_⟩; try refine zS ?_)
  | ((with_reducible refine CallK_id ?_); refine zcT [0] ?_; refine ⟨_, _, by first | exact indexFunc_ok signs 36 (fun x => pfx s x) (dS s) (fun x => first1_ok x s) (by decide) | fail, ?_⟩; try refine zS ?_)
  | exact True.intro
  | fail
  · have : 0 < joinN s := by omega
    simp [go_sem, firstF, subL_n, this]
  · have : ¬ 0 < joinN s := by omega
    simp [go_sem, firstF, this, hb, st]
  · have : ¬ 0 < joinN s := by omega
    simp [go_sem, firstF, this, hb]
theorem firstF_len (s : Str) (h : (firstF s).kind ≠ 0) : 1 ≤ (firstF s).text.length ∧ (firstF s).text.length ≤ s.length := by
  have hj := joinN_le s
  have hx := (idxF_lt (p := fun x => pfx s x) (l := signs) (i := 0)).1
  revert h
  unfold firstF
  split
  · intro _; simp; omega
  · split
    · intro h; simp at h
    · rename_i h1 h2
      intro _
      have h3 := idxF_p (p := fun x => pfx s x) (l := signs) (i := 0) (by omega)
      rw [Int.ofNat_zero, Int.sub_zero] at h3
      have h4 := pfx_len (of_decide_eq_true h3)
      have h5 : gt signs (idxF (fun x => pfx s x) signs 0).toNat ∈ signs := gt_mem (by rw [show signs.length = 13 from rfl] at *; omega)
      have h6 : ∀ x ∈ signs, 1 ≤ x.length := by decide
      exact ⟨h6 _ h5, h4⟩
def tokL (l : Str) (i : Nat) : List Tok × Option Nat :=
  match l with
  | [] => ([], none)
  | c :: r => if c = 32 then tokL r (i + 1) else
    if (firstF (c :: r)).kind = 0 then ([], some i) else
      (⟨(firstF (c :: r)).kind, i, (firstF (c :: r)).text⟩ :: (tokL (r.drop ((firstF (c :: r)).text.length - 1)) (i + (firstF (c :: r)).text.length)).1, (tokL (r.drop ((firstF (c :: r)).text.length - 1)) (i + (firstF (c :: r)).text.length)).2)
termination_by l.length
decreasing_by all_goals (simp; try omega)
def tokensF (s : Str) : List Tok × Int × Int :=
  if s.length > 20000 then ([], 0, 2) else match tokL s 0 with
  | (l, none) => (l, 0, 0)
  | (_, some i) => ([], i, 4)
theorem tokens_ok (s : Str) : AFn env 9 [aS s] [] (.tup [aF ((tokensF s).1.map Tok.row), aI (tokensF s).2.1, aI (tokensF s).2.2]) [] := by
  refine afn_body Tryd.func9 rfl (by decide) ?_
  simp only [Tryd.ntmps9, Tryd.results9, List.length_cons, List.length_nil, List.cons_append, List.nil_append, Nat.reduceAdd, Nat.reduceSub, List.replicate]
  repeat' first
  | with_reducible refine awp_seq ?_
  | ((with_reducible refine awp_region ?_); refine zS ?_)
  | ((with_reducible refine Gd_nd ?_ ?_) <;> intro hb hb2 <;> first | contradiction | (exfalso; omega) | (refine zH hb2 ?_; try clear hb2))
  | ((with_reducible refine Gd_nb ?_ ?_) <;> intro hb <;> first | contradiction | refine zH hb ?_)
  | ((with_reducible refine Gd_d ?_ ?_) <;> intro hb hb2 <;> first | contradiction | (exfalso; omega) | (refine zH hb2 ?_; try clear hb2))
  | ((with_reducible refine Gd_b ?_ ?_) <;> intro hb <;> first | contradiction | refine zH hb ?_)
  | ((with_reducible refine Res_id ?_); refine zS ?_)
  | ((with_reducible refine awp_drawnC ?_ ?_); rfl; refine zS ?_)
  | ((with_reducible refine awp_drawnA ?_ ?_); rfl; refine zS ?_)
  | ((with_reducible refine CGd_nd ?_ ?_) <;> intro hb hb2 <;> first | contradiction | (exfalso; omega) | (refine zH hb2 ?_; try clear hb2))
  | ((with_reducible refine CGd_nb ?_ ?_) <;> intro hb <;> first | contradiction | refine zH hb ?_)
  | ((with_reducible refine CGd_d ?_ ?_) <;> intro hb hb2 <;> first | contradiction | (exfalso; omega) | (refine zH hb2 ?_; try clear hb2))
  | ((with_reducible refine CGd_b ?_ ?_) <;> intro hb <;> first | contradiction | refine zH hb ?_)
  | ((with_reducible refine CRes_id ?_); refine zS ?_)
  | ((with_reducible refine DStep_id ?_); refine zdP ?_; refine ⟨_, by first | exact first_ok _ (by simp; omega) | fail, fun _ => rfl, fun _ => rfl, rfl, (fun h => by first | cases h | fail), ?_⟩; try refine zS ?_)
  | ((with_reducible refine DStep_id ?_); refine zdW ?_; refine ⟨_, by first | exact first_ok _ (by simp; omega) | fail, fun _ => rfl, fun _ => rfl, rfl, ?_⟩; try refine zS ?_)
  | ((with_reducible refine AWP_c ?_); refine zcdT ?_)
  | ((with_reducible refine AWP_c ?_); refine zcdF ?_)
  | ((with_reducible refine AWP_c ?_); refine zcdN ?_ ?_ <;> intro hb hb2 <;> first | contradiction | (exfalso; omega) | ((try refine zH hb2 ?_); try clear hb2))
  | ((with_reducible refine AWP_c ?_); refine zcdD ?_ ?_ <;> intro hb hb2 <;> first | contradiction | (exfalso; omega) | ((try refine zH hb2 ?_); try clear hb2))
  | ((with_reducible refine AWP_c ?_); refine zcdM ?_ ?_ <;> intro hb <;> first | contradiction | (try refine zH hb ?_))
  | ((with_reducible refine AWP_c ?_); refine zcdB ?_ ?_ <;> intro hb <;> first | contradiction | (try refine zH hb ?_))
  | ((with_reducible refine awp_ret ?_); refine fin_r ?_)
  | ((with_reducible refine awp_ret ?_); refine fin_q ?_ ?_)
  | with_reducible refine fin_qn ?_ ?_
  | ((with_reducible refine awp_skip ?_); refine zS ?_)
  | ((with_reducible refine awp_exit ?_); refine zS ?_)
  | ((with_reducible refine CallK_id ?_); refine zcF ?_; refine ⟨_, by first | exact first_ok _ (by simp; omega) | fail, fun _ => rfl, fun _ => rfl, rfl, ?_⟩; try refine zS ?_)
  | exact True.intro
  | fail
  · have : s.length > 20000 := by omega
    simp [go_sem, tokensF, this]
  refine awp_wk (wk_virt none (i := 5) (s := 3) (by decide) rfl) ?_
  refine zT ?_
  refine awp_block ?_
  refine awp_loopT (fun st : Nat × List Tok => st.1 ≤ s.length ∧ st.2.length ≤ st.1 ∧ ((st.2 ++ (tokL (s.drop st.1) st.1).1, (tokL (s.drop st.1) st.1).2) = tokL s 0)) (fun st => s.length - st.1) (fun st => [(5, .c (.own 0 0 st.2.length st.2.length)), (6, aI st.1)]) (fun st => [some (.rows 3 (st.2.map Tok.row))]) (0, []) ⟨by simp, by simp, by simp⟩ (wk_le (by simp only [go_sem, Bool.not_not, List.mem_singleton, forall_eq, ↓reduceIte, if_pos, rowsAt_map, wrap64, wrapu8, List.getElem?_cons_zero, List.getElem?_cons_succ, Int.reduceToNat, Nat.reduceAdd, Nat.reduceBEq, Bool.or_false, Bool.false_or, Bool.true_or, Nat.reduceSub, Nat.reduceMul, Int.reduceAdd, Int.reduceEq, Int.reduceLT, Int.reduceLE, Int.reduceNeg, Nat.reduceLT, Nat.reduceLeDiff]; simp) (by simp only [go_sem, Bool.not_not, List.mem_singleton, forall_eq, ↓reduceIte, if_pos, rowsAt_map, wrap64, wrapu8, List.getElem?_cons_zero, List.getElem?_cons_succ, Int.reduceToNat, Nat.reduceAdd, Nat.reduceBEq, Bool.or_false, Bool.false_or, Bool.true_or, Nat.reduceSub, Nat.reduceMul, Int.reduceAdd, Int.reduceEq, Int.reduceLT, Int.reduceLE, Int.reduceNeg, Nat.reduceLT, Nat.reduceLeDiff])) ?_
  rintro ⟨i, out⟩ ⟨h1, h2, h3⟩
  simp only at h1 h2 h3
  refine zT ?_
  repeat' first
  | with_reducible refine awp_seq ?_
  | ((with_reducible refine awp_region ?_); refine zS ?_)
  | ((with_reducible refine Gd_nd ?_ ?_) <;> intro hb hb2 <;> first | contradiction | (exfalso; omega) | (refine zH hb2 ?_; try clear hb2))
  | ((with_reducible refine Gd_nb ?_ ?_) <;> intro hb <;> first | contradiction | refine zH hb ?_)
  | ((with_reducible refine Gd_d ?_ ?_) <;> intro hb hb2 <;> first | contradiction | (exfalso; omega) | (refine zH hb2 ?_; try clear hb2))
  | ((with_reducible refine Gd_b ?_ ?_) <;> intro hb <;> first | contradiction | refine zH hb ?_)
  | ((with_reducible refine Res_id ?_); refine zS ?_)
  | ((with_reducible refine awp_drawnC ?_ ?_); rfl; refine zS ?_)
  | ((with_reducible refine awp_drawnA ?_ ?_); rfl; refine zS ?_)
  | ((with_reducible refine CGd_nd ?_ ?_) <;> intro hb hb2 <;> first | contradiction | (exfalso; omega) | (refine zH hb2 ?_; try clear hb2))
  | ((with_reducible refine CGd_nb ?_ ?_) <;> intro hb <;> first | contradiction | refine zH hb ?_)
  | ((with_reducible refine CGd_d ?_ ?_) <;> intro hb hb2 <;> first | contradiction | (exfalso; omega) | (refine zH hb2 ?_; try clear hb2))
  | ((with_reducible refine CGd_b ?_ ?_) <;> intro hb <;> first | contradiction | refine zH hb ?_)
  | ((with_reducible refine CRes_id ?_); refine zS ?_)
  | ((with_reducible refine DStep_id ?_); refine zdP ?_; refine ⟨_, by first | exact first_ok _ (by simp; omega) | fail, fun _ => rfl, fun _ => rfl, rfl, (fun h => by first | cases h | fail), ?_⟩; try refine zS ?_)
  | ((with_reducible refine DStep_id ?_); refine zdW ?_; refine ⟨_, by first | exact first_ok _ (by simp; omega) | fail, fun _ => rfl, fun _ => rfl, rfl, ?_⟩; try refine zS ?_)
  | ((with_reducible refine AWP_c ?_); refine zcdT ?_)
  | ((with_reducible refine AWP_c ?_); refine zcdF ?_)
  | ((with_reducible refine AWP_c ?_); refine zcdN ?_ ?_ <;> intro hb hb2 <;> first | contradiction | (exfalso; omega) | ((try refine zH hb2 ?_); try clear hb2))
  | ((with_reducible refine AWP_c ?_); refine zcdD ?_ ?_ <;> intro hb hb2 <;> first | contradiction | (exfalso; omega) | ((try refine zH hb2 ?_); try clear hb2))
  | ((with_reducible refine AWP_c ?_); refine zcdM ?_ ?_ <;> intro hb <;> first | contradiction | (try refine zH hb ?_))
  | ((with_reducible refine AWP_c ?_); refine zcdB ?_ ?_ <;> intro hb <;> first | contradiction | (try refine zH hb ?_))
  | ((with_reducible refine awp_ret ?_); refine fin_r ?_)
  | ((with_reducible refine awp_ret ?_); refine fin_q ?_ ?_)
  | with_reducible refine fin_qn ?_ ?_
  | ((with_reducible refine awp_skip ?_); refine zS ?_)
  | with_reducible refine awp_block ?_
  | ((with_reducible refine awp_exit ?_); refine zS ?_)
  | ((with_reducible refine CallK_id ?_); refine zcF ?_; refine ⟨_, by first | exact first_ok _ (by simp; omega) | fail, fun _ => rfl, fun _ => rfl, rfl, ?_⟩; try refine zS ?_)
  | exact True.intro
  | fail
  · have hi : i < s.length := by omega
    have h32 : gt s i = 32 := by have := hb; rw [byteAt_gt] at this; exact UInt8.toNat_inj.1 (by simpa using Int.ofNat.inj this)
    refine ⟨(i + 1, out), ⟨by simp only; omega, by simp only; omega, ?_⟩, by simp only; omega, wk_le (by simp only [go_sem, Bool.not_not, List.mem_singleton, forall_eq, ↓reduceIte, if_pos, rowsAt_map, wrap64, wrapu8, List.getElem?_cons_zero, List.getElem?_cons_succ, Int.reduceToNat, Nat.reduceAdd, Nat.reduceBEq, Bool.or_false, Bool.false_or, Bool.true_or, Nat.reduceSub, Nat.reduceMul, Int.reduceAdd, Int.reduceEq, Int.reduceLT, Int.reduceLE, Int.reduceNeg, Nat.reduceLT, Nat.reduceLeDiff]; simp) (by simp only [go_sem, Bool.not_not, List.mem_singleton, forall_eq, ↓reduceIte, if_pos, rowsAt_map, wrap64, wrapu8, List.getElem?_cons_zero, List.getElem?_cons_succ, Int.reduceToNat, Nat.reduceAdd, Nat.reduceBEq, Bool.or_false, Bool.false_or, Bool.true_or, Nat.reduceSub, Nat.reduceMul, Int.reduceAdd, Int.reduceEq, Int.reduceLT, Int.reduceLE, Int.reduceNeg, Nat.reduceLT, Nat.reduceLeDiff])⟩
    rw [← h3, drop_gt hi, tokL, if_pos h32]
  · have hi : i < s.length := by omega
    have h32 : ¬ gt s i = 32 := fun h => ‹¬byteAt s i = 32› (by rw [byteAt_gt, h]; rfl)
    rw [drop_gt hi] at hb h3
    rw [tokL, if_neg h32, if_pos hb] at h3
    have hl : ¬ s.length > 20000 := by omega
    simp [go_sem, tokensF, hl, ← h3]
  · have hi : i < s.length := by omega
    have h32 : ¬ gt s i = 32 := fun h => ‹¬byteAt s i = 32› (by rw [byteAt_gt, h]; rfl)
    have hk := firstF_len _ hb
    simp only [List.length_drop] at hk
    refine ⟨(i + (firstF (s.drop i)).text.length, out ++ [⟨(firstF (s.drop i)).kind, i, (firstF (s.drop i)).text⟩]), ⟨by simp only; omega, by simp; omega, ?_⟩, by simp only; omega, wk_cl 1 (by decide) (by simp) (by simp only [go_sem, Bool.not_not, List.mem_singleton, forall_eq, ↓reduceIte, if_pos, rowsAt_map, wrap64, wrapu8, List.getElem?_cons_zero, List.getElem?_cons_succ, Int.reduceToNat, Nat.reduceAdd, Nat.reduceBEq, Bool.or_false, Bool.false_or, Bool.true_or, Nat.reduceSub, Nat.reduceMul, Int.reduceAdd, Int.reduceEq, Int.reduceLT, Int.reduceLE, Int.reduceNeg, Nat.reduceLT, Nat.reduceLeDiff]; simp; rw [wrap64 (by omega) (by omega)]) (by simp only [go_sem, Bool.not_not, List.mem_singleton, forall_eq, ↓reduceIte, if_pos, rowsAt_map, wrap64, wrapu8, List.getElem?_cons_zero, List.getElem?_cons_succ, Int.reduceToNat, Nat.reduceAdd, Nat.reduceBEq, Bool.or_false, Bool.false_or, Bool.true_or, Nat.reduceSub, Nat.reduceMul, Int.reduceAdd, Int.reduceEq, Int.reduceLT, Int.reduceLE, Int.reduceNeg, Nat.reduceLT, Nat.reduceLeDiff]; simp [go_sem, Bool.not_not, List.mem_singleton, forall_eq, ↓reduceIte, if_pos, rowsAt_map, wrap64, wrapu8, List.getElem?_cons_zero, List.getElem?_cons_succ, Int.reduceToNat, Nat.reduceAdd, Nat.reduceBEq, Bool.or_false, Bool.false_or, Bool.true_or, Nat.reduceSub, Nat.reduceMul, Int.reduceAdd, Int.reduceEq, Int.reduceLT, Int.reduceLE, Int.reduceNeg, Nat.reduceLT, Nat.reduceLeDiff])⟩
    rw [← h3]
    have hd : s.drop (i + (firstF (s.drop i)).text.length) = (s.drop (i + 1)).drop ((firstF (s.drop i)).text.length - 1) := by
      rw [List.drop_drop]; congr 1; omega
    rw [hd]
    simp only [drop_gt hi] at hb hk ⊢
    conv => rhs; rw [tokL.eq_2, if_neg h32, if_neg hb]
    simp
  · have hi : i = s.length := by omega
    subst hi
    rw [List.drop_length, tokL, List.append_nil] at h3
    have hl : ¬ s.length > 20000 := by omega
    simp [go_sem, tokensF, hl, ← h3]
end Go.Eng
open Go Go.Proofs
namespace Go.Eng
set_option linter.unusedSimpArgs false
set_option linter.unusedVariables false
set_option maxRecDepth 100000
set_option maxHeartbeats 8000000

def PH (l : List Tok) (e b : Int) : Heap := [some (.box [.d (.fz (l.map Tok.row)), .d (dI e), .d (dI b)])]
def P0 : A := .c (.ptr 0 0 0 0)
attribute [go_sem] PH P0
def isF (l : List Tok) (x : Str) : Bool := decide (l.length ≠ 0) && decide ((gt l 0).text = x)
def atF (l : List Tok) (e : Int) : Int := if l.length > 0 then (gt l 0).pos else e
def failF (l : List Tok) (e b : Int) : Int := if b < 0 then atF l e else b
theorem pat_ok (l : List Tok) (e b : Int) : AFn env 44 [P0] (PH l e b) (aI (atF l e)) (PH l e b) := by
  refine afn_body Tryd.func44 rfl (by decide) ?_
  simp only [Tryd.ntmps44, Tryd.results44, List.length_cons, List.length_nil, List.cons_append, List.nil_append, Nat.reduceAdd, Nat.reduceSub, List.replicate]
  repeat' first
  | with_reducible refine awp_seq ?_
  | ((with_reducible refine awp_region ?_); refine zS ?_)
  | ((with_reducible refine Gd_nd ?_ ?_) <;> intro hb hb2 <;> first | contradiction | (exfalso; omega) | (refine zH hb2 ?_; try clear hb2))
  | ((with_reducible refine Gd_nb ?_ ?_) <;> intro hb <;> first | contradiction | refine zH hb ?_)
  | ((with_reducible refine Gd_d ?_ ?_) <;> intro hb hb2 <;> first | contradiction | (exfalso; omega) | (refine zH hb2 ?_; try clear hb2))
  | ((with_reducible refine Gd_b ?_ ?_) <;> intro hb <;> first | contradiction | refine zH hb ?_)
  | ((with_reducible refine Res_id ?_); refine zS ?_)
  | ((with_reducible refine awp_drawnC ?_ ?_); rfl; refine zS ?_)
  | ((with_reducible refine awp_drawnA ?_ ?_); rfl; refine zS ?_)
  | ((with_reducible refine CGd_nd ?_ ?_) <;> intro hb hb2 <;> first | contradiction | (exfalso; omega) | (refine zH hb2 ?_; try clear hb2))
  | ((with_reducible refine CGd_nb ?_ ?_) <;> intro hb <;> first | contradiction | refine zH hb ?_)
  | ((with_reducible refine CGd_d ?_ ?_) <;> intro hb hb2 <;> first | contradiction | (exfalso; omega) | (refine zH hb2 ?_; try clear hb2))
  | ((with_reducible refine CGd_b ?_ ?_) <;> intro hb <;> first | contradiction | refine zH hb ?_)
  | ((with_reducible refine CRes_id ?_); refine zS ?_)
  | ((with_reducible refine DStep_id ?_); refine zdP ?_; refine ⟨_, by first | fail | fail, fun _ => rfl, fun _ => rfl, rfl, (fun h => by first | cases h | fail), ?_⟩; try refine zS ?_)
  | ((with_reducible refine DStep_id ?_); refine zdW ?_; refine ⟨_, by first | fail | fail, fun _ => rfl, fun _ => rfl, rfl, ?_⟩; try refine zS ?_)
  | ((with_reducible refine AWP_c ?_); refine zcdT ?_)
  | ((with_reducible refine AWP_c ?_); refine zcdF ?_)
  | ((with_reducible refine AWP_c ?_); refine zcdN ?_ ?_ <;> intro hb hb2 <;> first | contradiction | (exfalso; omega) | ((try refine zH hb2 ?_); try clear hb2))
  | ((with_reducible refine AWP_c ?_); refine zcdD ?_ ?_ <;> intro hb hb2 <;> first | contradiction | (exfalso; omega) | ((try refine zH hb2 ?_); try clear hb2))
  | ((with_reducible refine AWP_c ?_); refine zcdM ?_ ?_ <;> intro hb <;> first | contradiction | (try refine zH hb ?_))
  | ((with_reducible refine AWP_c ?_); refine zcdB ?_ ?_ <;> intro hb <;> first | contradiction | (try refine zH hb ?_))
  | ((with_reducible refine awp_ret ?_); refine fin_r ?_)
  | ((with_reducible refine awp_ret ?_); refine fin_q ?_ ?_)
  | with_reducible refine fin_qn ?_ ?_
  | ((with_reducible refine awp_skip ?_); refine zS ?_)
  | with_reducible refine awp_block ?_
  | ((with_reducible refine awp_exit ?_); refine zS ?_)
  | ((with_reducible refine CallK_id ?_); refine zcF ?_; refine ⟨_, by first | fail | fail, fun _ => rfl, fun _ => rfl, rfl, ?_⟩; try refine zS ?_)
  | exact True.intro
  | fail
  · rw [atF, if_pos (by omega)]
  · rw [atF, if_neg (by omega)]
theorem pis_ok (l : List Tok) (e b : Int) (x : Str) : AFn env 69 [P0, aS x] (PH l e b) (aB (isF l x)) (PH (if isF l x = true then l.drop 1 else l) e b) := by
  refine afn_body Tryd.func69 rfl (by decide) ?_
  simp only [Tryd.ntmps69, Tryd.results69, List.length_cons, List.length_nil, List.cons_append, List.nil_append, Nat.reduceAdd, Nat.reduceSub, List.replicate]
  repeat' first
  | with_reducible refine awp_seq ?_
  | ((with_reducible refine awp_region ?_); refine zS ?_)
  | ((with_reducible refine Gd_nd ?_ ?_) <;> intro hb hb2 <;> first | contradiction | (exfalso; omega) | (refine zH hb2 ?_; try clear hb2))
  | ((with_reducible refine Gd_nb ?_ ?_) <;> intro hb <;> first | contradiction | refine zH hb ?_)
  | ((with_reducible refine Gd_d ?_ ?_) <;> intro hb hb2 <;> first | contradiction | (exfalso; omega) | (refine zH hb2 ?_; try clear hb2))
  | ((with_reducible refine Gd_b ?_ ?_) <;> intro hb <;> first | contradiction | refine zH hb ?_)
  | ((with_reducible refine Res_id ?_); refine zS ?_)
  | ((with_reducible refine awp_drawnC ?_ ?_); rfl; refine zS ?_)
  | ((with_reducible refine awp_drawnA ?_ ?_); rfl; refine zS ?_)
  | ((with_reducible refine CGd_nd ?_ ?_) <;> intro hb hb2 <;> first | contradiction | (exfalso; omega) | (refine zH hb2 ?_; try clear hb2))
  | ((with_reducible refine CGd_nb ?_ ?_) <;> intro hb <;> first | contradiction | refine zH hb ?_)
  | ((with_reducible refine CGd_d ?_ ?_) <;> intro hb hb2 <;> first | contradiction | (exfalso; omega) | (refine zH hb2 ?_; try clear hb2))
  | ((with_reducible refine CGd_b ?_ ?_) <;> intro hb <;> first | contradiction | refine zH hb ?_)
  | ((with_reducible refine CRes_id ?_); refine zS ?_)
  | ((with_reducible refine DStep_id ?_); refine zdP ?_; refine ⟨_, by first | fail | fail, fun _ => rfl, fun _ => rfl, rfl, (fun h => by first | cases h | fail), ?_⟩; try refine zS ?_)
  | ((with_reducible refine DStep_id ?_); refine zdW ?_; refine ⟨_, by first | fail | fail, fun _ => rfl, fun _ => rfl, rfl, ?_⟩; try refine zS ?_)
  | ((with_reducible refine AWP_c ?_); refine zcdT ?_)
  | ((with_reducible refine AWP_c ?_); refine zcdF ?_)
  | ((with_reducible refine AWP_c ?_); refine zcdN ?_ ?_ <;> intro hb hb2 <;> first | contradiction | (exfalso; omega) | ((try refine zH hb2 ?_); try clear hb2))
  | ((with_reducible refine AWP_c ?_); refine zcdD ?_ ?_ <;> intro hb hb2 <;> first | contradiction | (exfalso; omega) | ((try refine zH hb2 ?_); try clear hb2))
  | ((with_reducible refine AWP_c ?_); refine zcdM ?_ ?_ <;> intro hb <;> first | contradiction | (try refine zH hb ?_))
  | ((with_reducible refine AWP_c ?_); refine zcdB ?_ ?_ <;> intro hb <;> first | contradiction | (try refine zH hb ?_))
  | ((with_reducible refine awp_ret ?_); refine fin_r ?_)
  | ((with_reducible refine awp_ret ?_); refine fin_q ?_ ?_)
  | with_reducible refine fin_qn ?_ ?_
  | ((with_reducible refine awp_skip ?_); refine zS ?_)
  | with_reducible refine awp_block ?_
  | ((with_reducible refine awp_exit ?_); refine zS ?_)
  | ((with_reducible refine CallK_id ?_); refine zcF ?_; refine ⟨_, by first | fail | fail, fun _ => rfl, fun _ => rfl, rfl, ?_⟩; try refine zS ?_)
  | exact True.intro
  | fail
  all_goals (first | (have hb0 : ¬ l.length = 0 := by omega) | (have hb0 : l.length = 0 := by omega))
  all_goals simp_all [go_sem, isF]
theorem pfail_ok (l : List Tok) (e b : Int) : AFn env 25 [P0] (PH l e b) t0.a (PH l e (failF l e b)) := by
  refine afn_body Tryd.func25 rfl (by decide) ?_
  simp only [Tryd.ntmps25, Tryd.results25, List.length_cons, List.length_nil, List.cons_append, List.nil_append, Nat.reduceAdd, Nat.reduceSub, List.replicate]
  repeat' first
  | with_reducible refine awp_seq ?_
  | ((with_reducible refine awp_region ?_); refine zS ?_)
  | ((with_reducible refine Gd_nd ?_ ?_) <;> intro hb hb2 <;> first | contradiction | (exfalso; omega) | (refine zH hb2 ?_; try clear hb2))
  | ((with_reducible refine Gd_nb ?_ ?_) <;> intro hb <;> first | contradiction | refine zH hb ?_)
  | ((with_reducible refine Gd_d ?_ ?_) <;> intro hb hb2 <;> first | contradiction | (exfalso; omega) | (refine zH hb2 ?_; try clear hb2))
  | ((with_reducible refine Gd_b ?_ ?_) <;> intro hb <;> first | contradiction | refine zH hb ?_)
  | ((with_reducible refine Res_id ?_); refine zS ?_)
  | ((with_reducible refine awp_drawnC ?_ ?_); rfl; refine zS ?_)
  | ((with_reducible refine awp_drawnA ?_ ?_); rfl; refine zS ?_)
  | ((with_reducible refine CGd_nd ?_ ?_) <;> intro hb hb2 <;> first | contradiction | (exfalso; omega) | (refine zH hb2 ?_; try clear hb2))
  | ((with_reducible refine CGd_nb ?_ ?_) <;> intro hb <;> first | contradiction | refine zH hb ?_)
  | ((with_reducible refine CGd_d ?_ ?_) <;> intro hb hb2 <;> first | contradiction | (exfalso; omega) | (refine zH hb2 ?_; try clear hb2))
  | ((with_reducible refine CGd_b ?_ ?_) <;> intro hb <;> first | contradiction | refine zH hb ?_)
  | ((with_reducible refine CRes_id ?_); refine zS ?_)
  | ((with_reducible refine DStep_id ?_); refine zdP ?_; refine ⟨_, by first  | fail, fun _ => rfl, fun _ => rfl, rfl, (fun h => by first | cases h | fail), ?_⟩; try refine zS ?_)
  | ((with_reducible refine DStep_id ?_); refine zdW ?_; refine ⟨_, by first  | fail, fun _ => rfl, fun _ => rfl, rfl, ?_⟩; try refine zS ?_)
  | ((with_reducible refine DStep_id ?_); refine zdT [0] ?_; refine ⟨_, _, by first | exact pat_ok _ _ _ | fail, ?_⟩; try refine zS ?_)
  | ((with_reducible refine AWP_c ?_); refine zcdT ?_)
  | ((with_reducible refine AWP_c ?_); refine zcdF ?_)
  | ((with_reducible refine AWP_c ?_); refine zcdN ?_ ?_ <;> intro hb hb2 <;> first | contradiction | (exfalso; omega) | ((try refine zH hb2 ?_); try clear hb2))
  | ((with_reducible refine AWP_c ?_); refine zcdD ?_ ?_ <;> intro hb hb2 <;> first | contradiction | (exfalso; omega) | ((try refine zH hb2 ?_); try clear hb2))
  | ((with_reducible refine AWP_c ?_); refine zcdM ?_ ?_ <;> intro hb <;> first | contradiction | (try refine zH hb ?_))
  | ((with_reducible refine AWP_c ?_); refine zcdB ?_ ?_ <;> intro hb <;> first | contradiction | (try refine zH hb ?_))
  | ((with_reducible refine awp_ret ?_); refine fin_r ?_)
  | ((with_reducible refine awp_ret ?_); refine fin_q ?_ ?_)
  | with_reducible refine fin_qn ?_ ?_
  | ((with_reducible refine awp_skip ?_); refine zS ?_)
  | with_reducible refine awp_block ?_
  | ((with_reducible refine awp_exit ?_); refine zS ?_)
  | ((with_reducible refine CallK_id ?_); refine zcF ?_; refine ⟨_, by first  | fail, fun _ => rfl, fun _ => rfl, rfl, ?_⟩; try refine zS ?_)
  | ((with_reducible refine CallK_id ?_); refine zcT [0] ?_; refine ⟨_, _, by first | exact pat_ok _ _ _ | fail, ?_⟩; try refine zS ?_)
  | exact True.intro
  | fail
  · simp [go_sem, t0, T.op, T.n, T.kids]
  · simp [go_sem, failF, hb]
  · simp [go_sem, t0, T.op, T.n, T.kids]
  · simp [go_sem, failF, hb]
theorem cut_btw : cutC 0 65 (List.map C.d (betweens.flatMap Btw.cells)) = some (List.map C.d (betweens.flatMap Btw.cells)) := rfl
theorem cut_btw_i (i : Nat) (h : i < 13) : cutC (i * 5) 5 (List.map C.d (betweens.flatMap Btw.cells)) = some (List.map C.d (gt betweens i).cells) := by
  match i, h with
  | 0, _ => rfl
  | 1, _ => rfl
  | 2, _ => rfl
  | 3, _ => rfl
  | 4, _ => rfl
  | 5, _ => rfl
  | 6, _ => rfl
  | 7, _ => rfl
  | 8, _ => rfl
  | 9, _ => rfl
  | 10, _ => rfl
  | 11, _ => rfl
  | 12, _ => rfl
attribute [go_sem] cut_btw cut_btw_i
def findB (row : Int) (l : List Tok) : List Btw → Option Btw
  | [] => none
  | b :: bs => if b.row = row ∧ isF l b.text = true then some b else findB row l bs
def nextF (row : Int) (l : List Tok) : Option Btw := findB row l betweens
theorem next_ok (l : List Tok) (e b row : Int) : AFn env 43 [P0, aI row] (PH l e b) (.tup [(match nextF row l with | some b => b | none => default).a, aB (nextF row l).isSome]) (PH (if (nextF row l).isSome = true then l.drop 1 else l) e b) := by
  have hbl : betweens.length = 13 := rfl
  refine afn_body Tryd.func43 rfl (by decide) ?_
  simp only [Tryd.ntmps43, Tryd.results43, List.length_cons, List.length_nil, List.cons_append, List.nil_append, Nat.reduceAdd, Nat.reduceSub, List.replicate]
  repeat' first
  | with_reducible refine awp_seq ?_
  | ((with_reducible refine awp_region ?_); refine zS ?_)
  | ((with_reducible refine Gd_nd ?_ ?_) <;> intro hb hb2 <;> first | contradiction | (exfalso; omega) | (refine zH hb2 ?_; try clear hb2))
  | ((with_reducible refine Gd_nb ?_ ?_) <;> intro hb <;> first | contradiction | refine zH hb ?_)
  | ((with_reducible refine Gd_d ?_ ?_) <;> intro hb hb2 <;> first | contradiction | (exfalso; omega) | (refine zH hb2 ?_; try clear hb2))
  | ((with_reducible refine Gd_b ?_ ?_) <;> intro hb <;> first | contradiction | refine zH hb ?_)
  | ((with_reducible refine Res_id ?_); refine zS ?_)
  | ((with_reducible refine awp_drawnC ?_ ?_); rfl; refine zS ?_)
  | ((with_reducible refine awp_drawnA ?_ ?_); rfl; refine zS ?_)
  | ((with_reducible refine CGd_nd ?_ ?_) <;> intro hb hb2 <;> first | contradiction | (exfalso; omega) | (refine zH hb2 ?_; try clear hb2))
  | ((with_reducible refine CGd_nb ?_ ?_) <;> intro hb <;> first | contradiction | refine zH hb ?_)
  | ((with_reducible refine CGd_d ?_ ?_) <;> intro hb hb2 <;> first | contradiction | (exfalso; omega) | (refine zH hb2 ?_; try clear hb2))
  | ((with_reducible refine CGd_b ?_ ?_) <;> intro hb <;> first | contradiction | refine zH hb ?_)
  | ((with_reducible refine CRes_id ?_); refine zS ?_)
  | ((with_reducible refine DStep_id ?_); refine zdP ?_; refine ⟨_, by first  | fail, fun _ => rfl, fun _ => rfl, rfl, (fun h => by first | cases h | fail), ?_⟩; try refine zS ?_)
  | ((with_reducible refine DStep_id ?_); refine zdW ?_; refine ⟨_, by first  | fail, fun _ => rfl, fun _ => rfl, rfl, ?_⟩; try refine zS ?_)
  | ((with_reducible refine DStep_id ?_); refine zdT [0] ?_; refine ⟨_, _, by first | exact pis_ok _ _ _ _ | fail, ?_⟩; try refine zS ?_)
  | ((with_reducible refine AWP_c ?_); refine zcdT ?_)
  | ((with_reducible refine AWP_c ?_); refine zcdF ?_)
  | ((with_reducible refine AWP_c ?_); refine zcdN ?_ ?_ <;> intro hb hb2 <;> first | contradiction | (exfalso; omega) | ((try refine zH hb2 ?_); try clear hb2))
  | ((with_reducible refine AWP_c ?_); refine zcdD ?_ ?_ <;> intro hb hb2 <;> first | contradiction | (exfalso; omega) | ((try refine zH hb2 ?_); try clear hb2))
  | ((with_reducible refine AWP_c ?_); refine zcdM ?_ ?_ <;> intro hb <;> first | contradiction | (try refine zH hb ?_))
  | ((with_reducible refine AWP_c ?_); refine zcdB ?_ ?_ <;> intro hb <;> first | contradiction | (try refine zH hb ?_))
  | ((with_reducible refine awp_ret ?_); refine fin_r ?_)
  | ((with_reducible refine awp_ret ?_); refine fin_q ?_ ?_)
  | with_reducible refine fin_qn ?_ ?_
  | ((with_reducible refine awp_skip ?_); refine zS ?_)
  | ((with_reducible refine awp_exit ?_); refine zS ?_)
  | ((with_reducible refine CallK_id ?_); refine zcF ?_; refine ⟨_, by first  | fail, fun _ => rfl, fun _ => rfl, rfl, ?_⟩; try refine zS ?_)
  | ((with_reducible refine CallK_id ?_); refine zcT [0] ?_; refine ⟨_, _, by first | exact pis_ok _ _ _ _ | fail, ?_⟩; try refine zS ?_)
  | exact True.intro
  | fail
  refine awp_block ?_
  refine awp_loopT (fun i : Nat => i ≤ 13 ∧ nextF row l = findB row l (betweens.drop i)) (fun i => 13 - i) (fun i => [(9, aI i)]) (fun _ => PH l e b ++ [some (.box [.d (dS []), .d (dI 0), .d (dI 0), .d (dB false), .d (dB false)])]) 0 ⟨by omega, rfl⟩ (wk_le (by simp only [go_sem, Bool.not_not, List.mem_singleton, forall_eq, ↓reduceIte, if_pos, rowsAt_map, wrap64, wrapu8, List.getElem?_cons_zero, List.getElem?_cons_succ, Int.reduceToNat, Nat.reduceAdd, Nat.reduceBEq, Bool.or_false, Bool.false_or, Bool.true_or, Nat.reduceSub, Nat.reduceMul, Int.reduceAdd, Int.reduceEq, Int.reduceLT, Int.reduceLE, Int.reduceNeg, Nat.reduceLT, Nat.reduceLeDiff]; simp) (by simp only [go_sem, Bool.not_not, List.mem_singleton, forall_eq, ↓reduceIte, if_pos, rowsAt_map, wrap64, wrapu8, List.getElem?_cons_zero, List.getElem?_cons_succ, Int.reduceToNat, Nat.reduceAdd, Nat.reduceBEq, Bool.or_false, Bool.false_or, Bool.true_or, Nat.reduceSub, Nat.reduceMul, Int.reduceAdd, Int.reduceEq, Int.reduceLT, Int.reduceLE, Int.reduceNeg, Nat.reduceLT, Nat.reduceLeDiff]; first | done | rfl)) ?_
  rintro i ⟨h1, h2⟩
  refine zT ?_
  repeat' first
  | with_reducible refine awp_seq ?_
  | ((with_reducible refine awp_region ?_); refine zS ?_)
  | ((with_reducible refine Gd_nd ?_ ?_) <;> intro hb hb2 <;> first | contradiction | (exfalso; omega) | (refine zH hb2 ?_; try clear hb2))
  | ((with_reducible refine Gd_nb ?_ ?_) <;> intro hb <;> first | contradiction | refine zH hb ?_)
  | ((with_reducible refine Gd_d ?_ ?_) <;> intro hb hb2 <;> first | contradiction | (exfalso; omega) | (refine zH hb2 ?_; try clear hb2))
  | ((with_reducible refine Gd_b ?_ ?_) <;> intro hb <;> first | contradiction | refine zH hb ?_)
  | ((with_reducible refine Res_id ?_); refine zS ?_)
  | ((with_reducible refine awp_drawnC ?_ ?_); rfl; refine zS ?_)
  | ((with_reducible refine awp_drawnA ?_ ?_); rfl; refine zS ?_)
  | ((with_reducible refine CGd_nd ?_ ?_) <;> intro hb hb2 <;> first | contradiction | (exfalso; omega) | (refine zH hb2 ?_; try clear hb2))
  | ((with_reducible refine CGd_nb ?_ ?_) <;> intro hb <;> first | contradiction | refine zH hb ?_)
  | ((with_reducible refine CGd_d ?_ ?_) <;> intro hb hb2 <;> first | contradiction | (exfalso; omega) | (refine zH hb2 ?_; try clear hb2))
  | ((with_reducible refine CGd_b ?_ ?_) <;> intro hb <;> first | contradiction | refine zH hb ?_)
  | ((with_reducible refine CRes_id ?_); refine zS ?_)
  | ((with_reducible refine DStep_id ?_); refine zdP ?_; refine ⟨_, by first  | fail, fun _ => rfl, fun _ => rfl, rfl, (fun h => by first | cases h | fail), ?_⟩; try refine zS ?_)
  | ((with_reducible refine DStep_id ?_); refine zdW ?_; refine ⟨_, by first  | fail, fun _ => rfl, fun _ => rfl, rfl, ?_⟩; try refine zS ?_)
  | ((with_reducible refine DStep_id ?_); refine zdT [0] ?_; refine ⟨_, _, by first | exact pis_ok _ _ _ _ | fail, ?_⟩; try refine zS ?_)
  | ((with_reducible refine AWP_c ?_); refine zcdT ?_)
  | ((with_reducible refine AWP_c ?_); refine zcdF ?_)
  | ((with_reducible refine AWP_c ?_); refine zcdN ?_ ?_ <;> intro hb hb2 <;> first | contradiction | (exfalso; omega) | ((try refine zH hb2 ?_); try clear hb2))
  | ((with_reducible refine AWP_c ?_); refine zcdD ?_ ?_ <;> intro hb hb2 <;> first | contradiction | (exfalso; omega) | ((try refine zH hb2 ?_); try clear hb2))
  | ((with_reducible refine AWP_c ?_); refine zcdM ?_ ?_ <;> intro hb <;> first | contradiction | (try refine zH hb ?_))
  | ((with_reducible refine AWP_c ?_); refine zcdB ?_ ?_ <;> intro hb <;> first | contradiction | (try refine zH hb ?_))
  | ((with_reducible refine awp_ret ?_); refine fin_r ?_)
  | ((with_reducible refine awp_ret ?_); refine fin_q ?_ ?_)
  | with_reducible refine fin_qn ?_ ?_
  | ((with_reducible refine awp_skip ?_); refine zS ?_)
  | with_reducible refine awp_block ?_
  | ((with_reducible refine awp_exit ?_); refine zS ?_)
  | ((with_reducible refine CallK_id ?_); refine zcF ?_; refine ⟨_, by first  | fail, fun _ => rfl, fun _ => rfl, rfl, ?_⟩; try refine zS ?_)
  | ((with_reducible refine CallK_id ?_); refine zcT [0] ?_; refine ⟨_, _, by first | exact pis_ok _ _ _ _ | fail, ?_⟩; try refine zS ?_)
  | exact True.intro
  | fail
  all_goals first
    | (have hi : i = betweens.length := by omega
       subst hi
       rw [h2, List.drop_length, findB]; first | rfl | (simp [go_sem]; done))
    | (have hi : i < betweens.length := by omega
       rw [h2, drop_gt hi, findB]; first | (rw [if_pos ⟨‹_›, ‹_›⟩]; first | rfl | (simp [go_sem, ‹_ = row›]; done)) | (simp [*]; done))
    | (have hi : i < betweens.length := by omega
       exact ⟨i + 1, ⟨by omega, by rw [h2, drop_gt hi, findB, if_neg (by simp [hb])]⟩, by omega, wk_cl 2 (by decide) (by simp) (by simp only [go_sem, Bool.not_not, List.mem_singleton, forall_eq, ↓reduceIte, if_pos, rowsAt_map, wrap64, wrapu8, List.getElem?_cons_zero, List.getElem?_cons_succ, Int.reduceToNat, Nat.reduceAdd, Nat.reduceBEq, Bool.or_false, Bool.false_or, Bool.true_or, Nat.reduceSub, Nat.reduceMul, Int.reduceAdd, Int.reduceEq, Int.reduceLT, Int.reduceLE, Int.reduceNeg, Nat.reduceLT, Nat.reduceLeDiff]; simp) (by simp only [go_sem, Bool.not_not, List.mem_singleton, forall_eq, ↓reduceIte, if_pos, rowsAt_map, wrap64, wrapu8, List.getElem?_cons_zero, List.getElem?_cons_succ, Int.reduceToNat, Nat.reduceAdd, Nat.reduceBEq, Bool.or_false, Bool.false_or, Bool.true_or, Nat.reduceSub, Nat.reduceMul, Int.reduceAdd, Int.reduceEq, Int.reduceLT, Int.reduceLE, Int.reduceNeg, Nat.reduceLT, Nat.reduceLeDiff])⟩)

abbrev PR := T × List Tok × Int
def combF (b : Btw) (t x : T) : T :=
  let u := if b.turned = true then T.mk b.op 0 [x, t] else T.mk b.op 0 [t, x]
  if b.deny = true then T.mk 4 0 [u] else u
mutual
def rowF : Nat → Int → Int → List Tok → Int → PR
  | 0, _, _, l, b => (t0, l, b)
  | n + 1, e, r, l, b =>
    if r = 3 then aheadF n e 3 [110, 111, 116] 4 l b else if r = 7 then aheadF n e 7 [45] 3 l b else if r = 8 then oneF n e l b
    else loopF n e r (rowF n e (r + 1) l b).1 (rowF n e (r + 1) l b).2.1 (rowF n e (r + 1) l b).2.2
def loopF : Nat → Int → Int → T → List Tok → Int → PR
  | 0, _, _, t, l, b => (t, l, b)
  | n + 1, e, r, t, l, b => if b < 0 then match nextF r l with
      | none => (t, l, b)
      | some w =>
        if r = 4 then (combF w t (rowF n e (r + 1) (l.drop 1) b).1, (rowF n e (r + 1) (l.drop 1) b).2.1, (rowF n e (r + 1) (l.drop 1) b).2.2)
        else loopF n e r (combF w t (rowF n e (r + 1) (l.drop 1) b).1) (rowF n e (r + 1) (l.drop 1) b).2.1 (rowF n e (r + 1) (l.drop 1) b).2.2
    else (t, l, b)
def aheadF : Nat → Int → Int → Str → Int → List Tok → Int → PR
  | 0, _, _, _, _, l, b => (t0, l, b)
  | n + 1, e, r, x, o, l, b => if isF l x = true then (.mk o 0 [(rowF n e r (l.drop 1) b).1], (rowF n e r (l.drop 1) b).2.1, (rowF n e r (l.drop 1) b).2.2)
    else rowF n e (r + 1) l b
def oneF : Nat → Int → List Tok → Int → PR
  | 0, _, l, b => (t0, l, b)
  | n + 1, e, l, b => if isF l [40] = true then
      let q := rowF n e 1 (l.drop 1) b
      if q.2.2 < 0 then (if isF q.2.1 [41] = true then (q.1, q.2.1.drop 1, q.2.2) else (t0, q.2.1, failF q.2.1 e q.2.2)) else q
    else if l.length = 0 ∨ (gt l 0).kind ≠ 1 ∧ (gt l 0).kind ≠ 2 then (t0, l, failF l e b)
    else if (gt l 0).kind = 2 then (.mk 2 (numberF ((gt l 0).text.drop 1)).1 [], l.drop 1, b)
    else (.mk 1 (numberF (gt l 0).text).1 [], l.drop 1, b)
end
def needR (l : List Tok) (r : Int) : Int := 20 * l.length + 2 * (9 - r)
def okToks (l : List Tok) : Prop := ∀ t ∈ l, t.kind = 2 → t.text ≠ []
theorem okToks.drop {l : List Tok} (h : okToks l) (k : Nat) : okToks (l.drop k) := fun t ht => h t (List.mem_of_mem_drop ht)
theorem isF_len {l : List Tok} {x : Str} (h : isF l x = true) : 0 < l.length := by
  simp [isF] at h; cases l with | nil => simp at h | cons => simp
theorem nextF_len {r : Int} {l : List Tok} {w : Btw} (h : nextF r l = some w) : 0 < l.length := by
  unfold nextF at h
  generalize betweens = bs at h
  induction bs with
  | nil => simp [findB] at h
  | cons b bs ih =>
    simp only [findB] at h
    split at h
    · rename_i hb; exact isF_len hb.2
    · exact ih h
mutual
theorem rowF_drop : ∀ (n : Nat) (e r : Int) (l : List Tok) (b : Int), ∃ k, (rowF n e r l b).2.1 = l.drop k
  | 0, e, r, l, b => ⟨0, rfl⟩
  | n + 1, e, r, l, b => by
    rw [rowF]
    split
    · exact aheadF_drop ..
    · split
      · exact aheadF_drop ..
      · split
        · exact oneF_drop ..
        · obtain ⟨k, hk⟩ := rowF_drop n e (r + 1) l b
          obtain ⟨j, hj⟩ := loopF_drop n e r (rowF n e (r + 1) l b).1 (rowF n e (r + 1) l b).2.1 (rowF n e (r + 1) l b).2.2
          exact ⟨k + j, by rw [hj, hk, List.drop_drop]⟩
theorem loopF_drop : ∀ (n : Nat) (e r : Int) (t : T) (l : List Tok) (b : Int), ∃ k, (loopF n e r t l b).2.1 = l.drop k
  | 0, e, r, t, l, b => ⟨0, rfl⟩
  | n + 1, e, r, t, l, b => by
    rw [loopF]
    split
    · split
      · exact ⟨0, rfl⟩
      · obtain ⟨k, hk⟩ := rowF_drop n e (r + 1) (l.drop 1) b
        split
        · exact ⟨1 + k, by rw [hk, List.drop_drop]⟩
        · rename_i w _ _
          obtain ⟨j, hj⟩ := loopF_drop n e r (combF w t (rowF n e (r + 1) (l.drop 1) b).1) (rowF n e (r + 1) (l.drop 1) b).2.1 (rowF n e (r + 1) (l.drop 1) b).2.2
          exact ⟨1 + k + j, by rw [hj, hk, List.drop_drop, List.drop_drop]; congr 1; omega⟩
    · exact ⟨0, rfl⟩
theorem aheadF_drop : ∀ (n : Nat) (e r : Int) (x : Str) (o : Int) (l : List Tok) (b : Int), ∃ k, (aheadF n e r x o l b).2.1 = l.drop k
  | 0, e, r, x, o, l, b => ⟨0, rfl⟩
  | n + 1, e, r, x, o, l, b => by
    rw [aheadF]
    split
    · obtain ⟨k, hk⟩ := rowF_drop n e r (l.drop 1) b
      exact ⟨1 + k, by rw [hk, List.drop_drop]⟩
    · exact rowF_drop ..
theorem oneF_drop : ∀ (n : Nat) (e : Int) (l : List Tok) (b : Int), ∃ k, (oneF n e l b).2.1 = l.drop k
  | 0, e, l, b => ⟨0, rfl⟩
  | n + 1, e, l, b => by
    rw [oneF]
    split
    · obtain ⟨k, hk⟩ := rowF_drop n e 1 (l.drop 1) b
      simp only
      split
      · split
        · exact ⟨1 + (k + 1), by rw [hk, List.drop_drop, List.drop_drop]⟩
        · exact ⟨1 + k, by rw [hk, List.drop_drop]⟩
      · exact ⟨1 + k, by rw [hk, List.drop_drop]⟩
    · split
      · exact ⟨0, rfl⟩
      · split <;> exact ⟨1, rfl⟩
end
end Go.Eng
open Go Go.Proofs
namespace Go.Eng
set_option linter.unusedSimpArgs false
set_option linter.unusedVariables false
set_option maxRecDepth 10000
set_option maxHeartbeats 4000000

def Prow (m : Nat) : Prop := ∀ e r l b, 1 ≤ r → r ≤ 8 → needR l r ≤ m → okToks l →
  AFn env 24 [P0, aI r] (PH l e b) (rowF m e r l b).1.a (PH (rowF m e r l b).2.1 e (rowF m e r l b).2.2)
theorem needR_drop {l : List Tok} {r r' : Int} (h : 0 < l.length) (hr : 1 ≤ r') (hr2 : r' ≤ 8) (hr3 : r ≤ 8): needR (l.drop 1) r' ≤ needR l r - 4 := by
  simp only [needR, List.length_drop]; omega
theorem needR_succ (l : List Tok) (r : Int) : needR l (r + 1) = needR l r - 2 := by simp only [needR]; omega
theorem ahead_ok (n : Nat) (ih : Prow n) (e r : Int) (x : Str) (o : Int) (l : List Tok) (b : Int) (hr : r = 3 ∨ r = 7) (hn : needR l r ≤ n + 2) (hk : okToks l) :
    AFn env 41 [P0, aI r, aS x, aI o] (PH l e b) (aheadF (n + 1) e r x o l b).1.a (PH (aheadF (n + 1) e r x o l b).2.1 e (aheadF (n + 1) e r x o l b).2.2) := by
  refine afn_body Tryd.func41 rfl (by decide) ?_
  simp only [Tryd.ntmps41, Tryd.results41, List.length_cons, List.length_nil, List.cons_append, List.nil_append, Nat.reduceAdd, Nat.reduceSub, List.replicate]
  repeat' first
  | with_reducible refine awp_seq ?_
  | ((with_reducible refine awp_region ?_); refine zS ?_)
  | ((with_reducible refine Gd_nd ?_ ?_) <;> intro hb hb2 <;> first | contradiction | (exfalso; omega) | (refine zH hb2 ?_; try clear hb2))
  | ((with_reducible refine Gd_nb ?_ ?_) <;> intro hb <;> first | contradiction | refine zH hb ?_)
  | ((with_reducible refine Gd_d ?_ ?_) <;> intro hb hb2 <;> first | contradiction | (exfalso; omega) | (refine zH hb2 ?_; try clear hb2))
  | ((with_reducible refine Gd_b ?_ ?_) <;> intro hb <;> first | contradiction | refine zH hb ?_)
  | ((with_reducible refine Res_id ?_); refine zS ?_)
  | ((with_reducible refine awp_drawnC ?_ ?_); rfl; refine zS ?_)
  | ((with_reducible refine awp_drawnA ?_ ?_); rfl; refine zS ?_)
  | ((with_reducible refine CGd_nd ?_ ?_) <;> intro hb hb2 <;> first | contradiction | (exfalso; omega) | (refine zH hb2 ?_; try clear hb2))
  | ((with_reducible refine CGd_nb ?_ ?_) <;> intro hb <;> first | contradiction | refine zH hb ?_)
  | ((with_reducible refine CGd_d ?_ ?_) <;> intro hb hb2 <;> first | contradiction | (exfalso; omega) | (refine zH hb2 ?_; try clear hb2))
  | ((with_reducible refine CGd_b ?_ ?_) <;> intro hb <;> first | contradiction | refine zH hb ?_)
  | ((with_reducible refine CRes_id ?_); refine zS ?_)
  | ((with_reducible refine DStep_id ?_); refine zdP ?_; refine ⟨_, by first  | fail, fun _ => rfl, fun _ => rfl, rfl, (fun h => by first | cases h | fail), ?_⟩; try refine zS ?_)
  | ((with_reducible refine DStep_id ?_); refine zdW ?_; refine ⟨_, by first  | fail, fun _ => rfl, fun _ => rfl, rfl, ?_⟩; try refine zS ?_)
  | ((with_reducible refine DStep_id ?_); refine zdT [0] ?_; refine ⟨_, _, by first | exact pis_ok _ _ _ _ | exact ih _ _ _ _ (by omega) (by omega) (by have := needR_drop (l := l) (r := r) (r' := r) (isF_len ‹_›) (by omega) (by omega) (by omega); omega) (hk.drop 1) | exact ih _ _ _ _ (by omega) (by omega) (by rw [needR_succ]; omega) hk | fail, ?_⟩; try refine zS ?_)
  | ((with_reducible refine AWP_c ?_); refine zcdT ?_)
  | ((with_reducible refine AWP_c ?_); refine zcdF ?_)
  | ((with_reducible refine AWP_c ?_); refine zcdN ?_ ?_ <;> intro hb hb2 <;> first | contradiction | (exfalso; omega) | ((try refine zH hb2 ?_); try clear hb2))
  | ((with_reducible refine AWP_c ?_); refine zcdD ?_ ?_ <;> intro hb hb2 <;> first | contradiction | (exfalso; omega) | ((try refine zH hb2 ?_); try clear hb2))
  | ((with_reducible refine AWP_c ?_); refine zcdM ?_ ?_ <;> intro hb <;> first | contradiction | (try refine zH hb ?_))
  | ((with_reducible refine AWP_c ?_); refine zcdB ?_ ?_ <;> intro hb <;> first | contradiction | (try refine zH hb ?_))
  | ((with_reducible refine awp_ret ?_); refine fin_r ?_)
  | ((with_reducible refine awp_ret ?_); refine fin_q ?_ ?_)
  | with_reducible refine fin_qn ?_ ?_
  | ((with_reducible refine awp_skip ?_); refine zS ?_)
  | with_reducible refine awp_block ?_
  | ((with_reducible refine awp_exit ?_); refine zS ?_)
  | ((with_reducible refine CallK_id ?_); refine zcF ?_; refine ⟨_, by first  | fail, fun _ => rfl, fun _ => rfl, rfl, ?_⟩; try refine zS ?_)
  | ((with_reducible refine CallK_id ?_); refine zcT [0] ?_; refine ⟨_, _, by first | exact pis_ok _ _ _ _ | exact ih _ _ _ _ (by omega) (by omega) (by have := needR_drop (l := l) (r := r) (r' := r) (isF_len ‹_›) (by omega) (by omega) (by omega); omega) (hk.drop 1) | exact ih _ _ _ _ (by omega) (by omega) (by rw [needR_succ]; omega) hk | fail, ?_⟩; try refine zS ?_)
  | exact True.intro
  | fail
  all_goals simp [go_sem, aheadF, hb, T.op, T.n, T.kids]
theorem one_ok (n : Nat) (ih : Prow n) (e : Int) (l : List Tok) (b : Int) (hn : needR l 8 ≤ n + 2) (hk : okToks l) :
    AFn env 42 [P0] (PH l e b) (oneF (n + 1) e l b).1.a (PH (oneF (n + 1) e l b).2.1 e (oneF (n + 1) e l b).2.2) := by
  have hx : 0 < l.length → (gt l 0).kind = 2 → 1 ≤ (gt l 0).text.length := fun h h2 => List.length_pos_iff.2 (hk _ (gt_mem h) h2)
  refine afn_body Tryd.func42 rfl (by decide) ?_
  simp only [Tryd.ntmps42, Tryd.results42, List.length_cons, List.length_nil, List.cons_append, List.nil_append, Nat.reduceAdd, Nat.reduceSub, List.replicate]
  repeat' first
  | with_reducible refine awp_seq ?_
  | ((with_reducible refine awp_region ?_); refine zS ?_)
  | ((with_reducible refine Gd_nd ?_ ?_) <;> intro hb hb2 <;> first | contradiction | (exfalso; omega) | (refine zH hb2 ?_; try clear hb2))
  | ((with_reducible refine Gd_nb ?_ ?_) <;> intro hb <;> first | contradiction | refine zH hb ?_)
  | ((with_reducible refine Gd_d ?_ ?_) <;> intro hb hb2 <;> first | contradiction | (exfalso; omega) | (refine zH hb2 ?_; try clear hb2))
  | ((with_reducible refine Gd_b ?_ ?_) <;> intro hb <;> first | contradiction | refine zH hb ?_)
  | ((with_reducible refine Res_id ?_); refine zS ?_)
  | ((with_reducible refine awp_drawnC ?_ ?_); rfl; refine zS ?_)
  | ((with_reducible refine awp_drawnA ?_ ?_); rfl; refine zS ?_)
  | ((with_reducible refine CGd_nd ?_ ?_) <;> intro hb hb2 <;> first | contradiction | (exfalso; omega) | (refine zH hb2 ?_; try clear hb2))
  | ((with_reducible refine CGd_nb ?_ ?_) <;> intro hb <;> first | contradiction | refine zH hb ?_)
  | ((with_reducible refine CGd_d ?_ ?_) <;> intro hb hb2 <;> first | contradiction | (exfalso; omega) | (refine zH hb2 ?_; try clear hb2))
  | ((with_reducible refine CGd_b ?_ ?_) <;> intro hb <;> first | contradiction | refine zH hb ?_)
  | ((with_reducible refine CRes_id ?_); refine zS ?_)
  | ((with_reducible refine DStep_id ?_); refine zdP ?_; refine ⟨_, by first | exact number_ok _ | fail, fun _ => rfl, fun _ => rfl, rfl, (fun h => by first | cases h | fail), ?_⟩; try refine zS ?_)
  | ((with_reducible refine DStep_id ?_); refine zdW ?_; refine ⟨_, by first | exact number_ok _ | fail, fun _ => rfl, fun _ => rfl, rfl, ?_⟩; try refine zS ?_)
  | ((with_reducible refine DStep_id ?_); refine zdT [0] ?_; refine ⟨_, _, by first | exact pis_ok _ _ _ _ | exact pfail_ok _ _ _ | exact ih _ _ _ _ (by omega) (by omega) (by have := needR_drop (l := l) (r := 8) (r' := 1) (isF_len ‹_›) (by omega) (by omega) (by omega); omega) (hk.drop 1) | fail, ?_⟩; try refine zS ?_)
  | ((with_reducible refine AWP_c ?_); refine zcdT ?_)
  | ((with_reducible refine AWP_c ?_); refine zcdF ?_)
  | ((with_reducible refine AWP_c ?_); refine zcdN ?_ ?_ <;> intro hb hb2 <;> first | contradiction | (exfalso; omega) | ((try refine zH hb2 ?_); try clear hb2))
  | ((with_reducible refine AWP_c ?_); refine zcdD ?_ ?_ <;> intro hb hb2 <;> first | contradiction | (exfalso; omega) | ((try refine zH hb2 ?_); try clear hb2))
  | ((with_reducible refine AWP_c ?_); refine zcdM ?_ ?_ <;> intro hb <;> first | contradiction | (try refine zH hb ?_))
  | ((with_reducible refine AWP_c ?_); refine zcdB ?_ ?_ <;> intro hb <;> first | contradiction | (try refine zH hb ?_))
  | ((with_reducible refine awp_ret ?_); refine fin_r ?_)
  | ((with_reducible refine awp_ret ?_); refine fin_q ?_ ?_)
  | with_reducible refine fin_qn ?_ ?_
  | ((with_reducible refine awp_skip ?_); refine zS ?_)
  | with_reducible refine awp_block ?_
  | ((with_reducible refine awp_exit ?_); refine zS ?_)
  | ((with_reducible refine CallK_id ?_); refine zcF ?_; refine ⟨_, by first | exact number_ok _ | fail, fun _ => rfl, fun _ => rfl, rfl, ?_⟩; try refine zS ?_)
  | ((with_reducible refine CallK_id ?_); refine zcT [0] ?_; refine ⟨_, _, by first | exact pis_ok _ _ _ _ | exact pfail_ok _ _ _ | exact ih _ _ _ _ (by omega) (by omega) (by have := needR_drop (l := l) (r := 8) (r' := 1) (isF_len ‹_›) (by omega) (by omega) (by omega); omega) (hk.drop 1) | fail, ?_⟩; try refine zS ?_)
  | exact True.intro
  | fail
  all_goals try (have hb0 : l.length = 0 := by omega)
  all_goals try (have hb0 : ¬ l.length = 0 := by omega)
  all_goals clear ih hn hk hx
  all_goals first
    | (have hb1 : ¬ (rowF n e 1 (l.drop 1) b).2.2 < 0 := ‹_›
       simp only [go_sem, oneF, if_neg hb1, if_pos ‹isF l [40] = true›]; done)
    | (simp [-List.drop_one, -List.map_drop, go_sem, oneF, t0, T.op, T.n, T.kids, *]; done)
    | skip
  all_goals trace_state
theorem next_ok' (l : List Tok) (e b row : Int) (w : Option Btw) (hw : nextF row l = w) : AFn env 43 [P0, aI row] (PH l e b) (.tup [(w.getD default).a, aB w.isSome]) (PH (if w.isSome = true then l.drop 1 else l) e b) := by
  subst hw
  have := next_ok l e b row
  cases h : nextF row l <;> rw [h] at this <;> exact this
attribute [go_sem] Option.getD_some Option.getD_none Option.isSome_none
theorem row_ok (N : Nat) (ih : ∀ m, m ≤ N → Prow m) : Prow (N + 1) := by
  intro e r l b h1 h8 hn hk
  obtain ⟨k, rfl⟩ : ∃ k, N = k + 1 := ⟨N - 1, by simp only [needR] at hn; omega⟩
  refine afn_body Tryd.func24 rfl (by decide) ?_
  simp only [Tryd.ntmps24, Tryd.results24, List.length_cons, List.length_nil, List.cons_append, List.nil_append, Nat.reduceAdd, Nat.reduceSub, List.replicate]
  repeat' first
  | with_reducible refine awp_seq ?_
  | ((with_reducible refine awp_region ?_); refine zS ?_)
  | ((with_reducible refine Gd_nd ?_ ?_) <;> intro hb hb2 <;> first | contradiction | (exfalso; omega) | (refine zH hb2 ?_; try clear hb2))
  | ((with_reducible refine Gd_nb ?_ ?_) <;> intro hb <;> first | contradiction | refine zH hb ?_)
  | ((with_reducible refine Gd_d ?_ ?_) <;> intro hb hb2 <;> first | contradiction | (exfalso; omega) | (refine zH hb2 ?_; try clear hb2))
  | ((with_reducible refine Gd_b ?_ ?_) <;> intro hb <;> first | contradiction | refine zH hb ?_)
  | ((with_reducible refine Res_id ?_); refine zS ?_)
  | ((with_reducible refine awp_drawnC ?_ ?_); rfl; refine zS ?_)
  | ((with_reducible refine awp_drawnA ?_ ?_); rfl; refine zS ?_)
  | ((with_reducible refine CGd_nd ?_ ?_) <;> intro hb hb2 <;> first | contradiction | (exfalso; omega) | (refine zH hb2 ?_; try clear hb2))
  | ((with_reducible refine CGd_nb ?_ ?_) <;> intro hb <;> first | contradiction | refine zH hb ?_)
  | ((with_reducible refine CGd_d ?_ ?_) <;> intro hb hb2 <;> first | contradiction | (exfalso; omega) | (refine zH hb2 ?_; try clear hb2))
  | ((with_reducible refine CGd_b ?_ ?_) <;> intro hb <;> first | contradiction | refine zH hb ?_)
  | ((with_reducible refine CRes_id ?_); refine zS ?_)
  | ((with_reducible refine DStep_id ?_); refine zdP ?_; refine ⟨_, by first  | fail, fun _ => rfl, fun _ => rfl, rfl, (fun h => by first | cases h | fail), ?_⟩; try refine zS ?_)
  | ((with_reducible refine DStep_id ?_); refine zdW ?_; refine ⟨_, by first  | fail, fun _ => rfl, fun _ => rfl, rfl, ?_⟩; try refine zS ?_)
  | ((with_reducible refine DStep_id ?_); refine zdT [0] ?_; refine ⟨_, _, by first | exact ahead_ok k (ih k (by omega)) _ 3 _ _ _ _ (by omega) (by rw [← ‹r = 3›]; omega) hk | exact ahead_ok k (ih k (by omega)) _ 7 _ _ _ _ (by omega) (by rw [← ‹r = 7›]; omega) hk | exact one_ok k (ih k (by omega)) _ _ _ (by rw [← ‹r = 8›]; omega) hk | exact ih (k + 1) (by omega) _ (r + 1) _ _ (by omega) (by omega) (by rw [needR_succ]; omega) hk | fail, ?_⟩; try refine zS ?_)
  | ((with_reducible refine AWP_c ?_); refine zcdT ?_)
  | ((with_reducible refine AWP_c ?_); refine zcdF ?_)
  | ((with_reducible refine AWP_c ?_); refine zcdN ?_ ?_ <;> intro hb hb2 <;> first | contradiction | (exfalso; omega) | ((try refine zH hb2 ?_); try clear hb2))
  | ((with_reducible refine AWP_c ?_); refine zcdD ?_ ?_ <;> intro hb hb2 <;> first | contradiction | (exfalso; omega) | ((try refine zH hb2 ?_); try clear hb2))
  | ((with_reducible refine AWP_c ?_); refine zcdM ?_ ?_ <;> intro hb <;> first | contradiction | (try refine zH hb ?_))
  | ((with_reducible refine AWP_c ?_); refine zcdB ?_ ?_ <;> intro hb <;> first | contradiction | (try refine zH hb ?_))
  | ((with_reducible refine awp_ret ?_); refine fin_r ?_)
  | ((with_reducible refine awp_ret ?_); refine fin_q ?_ ?_)
  | with_reducible refine fin_qn ?_ ?_
  | ((with_reducible refine awp_skip ?_); refine zS ?_)
  | with_reducible refine awp_block ?_
  | ((with_reducible refine awp_exit ?_); refine zS ?_)
  | ((with_reducible refine CallK_id ?_); refine zcF ?_; refine ⟨_, by first  | fail, fun _ => rfl, fun _ => rfl, rfl, ?_⟩; try refine zS ?_)
  | ((with_reducible refine CallK_id ?_); refine zcT [0] ?_; refine ⟨_, _, by first | exact ahead_ok k (ih k (by omega)) _ 3 _ _ _ _ (by omega) (by rw [← ‹r = 3›]; omega) hk | exact ahead_ok k (ih k (by omega)) _ 7 _ _ _ _ (by omega) (by rw [← ‹r = 7›]; omega) hk | exact one_ok k (ih k (by omega)) _ _ _ (by rw [← ‹r = 8›]; omega) hk | exact ih (k + 1) (by omega) _ (r + 1) _ _ (by omega) (by omega) (by rw [needR_succ]; omega) hk | fail, ?_⟩; try refine zS ?_)
  | exact True.intro
  | fail
  · have h := ‹r = 3›; subst h
    simp only [rowF, ↓reduceIte]
  · have h := ‹r = 3›; subst h
    simp only [rowF, ↓reduceIte]
  · have h := ‹r = 7›; subst h
    simp [-List.map_drop, go_sem, rowF]
  · have h := ‹r = 7›; subst h
    simp [-List.map_drop, go_sem, rowF]
  · have h := ‹r = 8›; subst h
    simp [-List.map_drop, go_sem, rowF]
  · have h := ‹r = 8›; subst h
    simp [-List.map_drop, go_sem, rowF]
  have e1 : rowF (k + 2) e r l b = loopF (k + 1) e r (rowF (k + 1) e (r + 1) l b).1 (rowF (k + 1) e (r + 1) l b).2.1 (rowF (k + 1) e (r + 1) l b).2.2 := by
    rw [rowF, if_neg ‹¬ r = 3›, if_neg ‹¬ r = 7›, if_neg ‹¬ r = 8›]
  obtain ⟨d, hd⟩ := rowF_drop (k + 1) e (r + 1) l b
  refine awp_loopT (fun s : Nat × T × List Tok × Int => s.1 ≤ k + 1 ∧ needR s.2.2.1 r - 1 ≤ s.1 ∧ okToks s.2.2.1 ∧ rowF (k + 2) e r l b = loopF s.1 e r s.2.1 s.2.2.1 s.2.2.2) (fun s => s.1) (fun _ => [])
    (fun s => PH s.2.2.1 e s.2.2.2 ++ [some (.box [.d (dI 0), .d (dI 0), .nils]), some (.box [.d (dI s.2.1.op), .d (dI s.2.1.n), .d (.fz (s.2.1.kids.map T.row))])])
    (k + 1, rowF (k + 1) e (r + 1) l b) ⟨by simp, by simp only [hd, needR, List.length_drop] at *; omega, by simp only [hd]; exact hk.drop d, e1⟩ (wk_le (by simp only [go_sem, Bool.not_not, List.mem_singleton, forall_eq, ↓reduceIte, if_pos, rowsAt_map, wrap64, wrapu8, List.getElem?_cons_zero, List.getElem?_cons_succ, Int.reduceToNat, Nat.reduceAdd, Nat.reduceBEq, Bool.or_false, Bool.false_or, Bool.true_or, Nat.reduceSub, Nat.reduceMul, Int.reduceAdd, Int.reduceEq, Int.reduceLT, Int.reduceLE, Int.reduceNeg, Nat.reduceLT, Nat.reduceLeDiff]) (by simp only [go_sem, Bool.not_not, List.mem_singleton, forall_eq, ↓reduceIte, if_pos, rowsAt_map, wrap64, wrapu8, List.getElem?_cons_zero, List.getElem?_cons_succ, Int.reduceToNat, Nat.reduceAdd, Nat.reduceBEq, Bool.or_false, Bool.false_or, Bool.true_or, Nat.reduceSub, Nat.reduceMul, Int.reduceAdd, Int.reduceEq, Int.reduceLT, Int.reduceLE, Int.reduceNeg, Nat.reduceLT, Nat.reduceLeDiff]; first | done | rfl)) ?_
  rintro ⟨n1, t1, l1, b1⟩ ⟨i1, i2, i3, i4⟩
  simp only at i1 i2 i3 i4
  obtain ⟨n2, rfl⟩ : ∃ n2, n1 = n2 + 1 := ⟨n1 - 1, by simp only [needR] at i2; omega⟩
  clear e1
  obtain ⟨d2, hd2⟩ := rowF_drop n2 e (r + 1) (l1.drop 1) b1
  rcases hw : nextF r l1 with _ | w
  · simp only [go_sem, Bool.not_not, List.mem_singleton, forall_eq, ↓reduceIte, if_pos, rowsAt_map, wrap64, wrapu8, List.getElem?_cons_zero, List.getElem?_cons_succ, Int.reduceToNat, Nat.reduceAdd, Nat.reduceBEq, Bool.or_false, Bool.false_or, Bool.true_or, Nat.reduceSub, Nat.reduceMul, Int.reduceAdd, Int.reduceEq, Int.reduceLT, Int.reduceLE, Int.reduceNeg, Nat.reduceLT, Nat.reduceLeDiff]
    repeat' first
    | with_reducible refine awp_seq ?_
    | ((with_reducible refine awp_region ?_); refine zS ?_)
    | ((with_reducible refine Gd_nd ?_ ?_) <;> intro hb hb2 <;> first | contradiction | (exfalso; omega) | (refine zH hb2 ?_; try clear hb2))
    | ((with_reducible refine Gd_nb ?_ ?_) <;> intro hb <;> first | contradiction | refine zH hb ?_)
    | ((with_reducible refine Gd_d ?_ ?_) <;> intro hb hb2 <;> first | contradiction | (exfalso; omega) | (refine zH hb2 ?_; try clear hb2))
    | ((with_reducible refine Gd_b ?_ ?_) <;> intro hb <;> first | contradiction | refine zH hb ?_)
    | ((with_reducible refine Res_id ?_); refine zS ?_)
    | ((with_reducible refine awp_drawnC ?_ ?_); rfl; refine zS ?_)
    | ((with_reducible refine awp_drawnA ?_ ?_); rfl; refine zS ?_)
    | ((with_reducible refine CGd_nd ?_ ?_) <;> intro hb hb2 <;> first | contradiction | (exfalso; omega) | (refine zH hb2 ?_; try clear hb2))
    | ((with_reducible refine CGd_nb ?_ ?_) <;> intro hb <;> first | contradiction | refine zH hb ?_)
    | ((with_reducible refine CGd_d ?_ ?_) <;> intro hb hb2 <;> first | contradiction | (exfalso; omega) | (refine zH hb2 ?_; try clear hb2))
    | ((with_reducible refine CGd_b ?_ ?_) <;> intro hb <;> first | contradiction | refine zH hb ?_)
    | ((with_reducible refine CRes_id ?_); refine zS ?_)
    | ((with_reducible refine DStep_id ?_); refine zdP ?_; refine ⟨_, by first  | fail, fun _ => rfl, fun _ => rfl, rfl, (fun h => by first | cases h | fail), ?_⟩; try refine zS ?_)
    | ((with_reducible refine DStep_id ?_); refine zdW ?_; refine ⟨_, by first  | fail, fun _ => rfl, fun _ => rfl, rfl, ?_⟩; try refine zS ?_)
    | ((with_reducible refine DStep_id ?_); refine zdT [0] ?_; refine ⟨_, _, by first | exact next_ok' _ _ _ _ _ hw | exact ih n2 (by omega) _ (r + 1) _ _ (by omega) (by omega) (by omega) (i3.drop 1) | fail, ?_⟩; try refine zS ?_)
    | ((with_reducible refine AWP_c ?_); refine zcdT ?_)
    | ((with_reducible refine AWP_c ?_); refine zcdF ?_)
    | ((with_reducible refine AWP_c ?_); refine zcdN ?_ ?_ <;> intro hb hb2 <;> first | contradiction | (exfalso; omega) | ((try refine zH hb2 ?_); try clear hb2))
    | ((with_reducible refine AWP_c ?_); refine zcdD ?_ ?_ <;> intro hb hb2 <;> first | contradiction | (exfalso; omega) | ((try refine zH hb2 ?_); try clear hb2))
    | ((with_reducible refine AWP_c ?_); refine zcdM ?_ ?_ <;> intro hb <;> first | contradiction | (try refine zH hb ?_))
    | ((with_reducible refine AWP_c ?_); refine zcdB ?_ ?_ <;> intro hb <;> first | contradiction | (try refine zH hb ?_))
    | ((with_reducible refine awp_ret ?_); refine fin_r ?_)
    | ((with_reducible refine awp_ret ?_); refine fin_q ?_ ?_)
    | with_reducible refine fin_qn ?_ ?_
    | ((with_reducible refine awp_skip ?_); refine zS ?_)
    | with_reducible refine awp_block ?_
    | ((with_reducible refine awp_exit ?_); refine zS ?_)
    | ((with_reducible refine CallK_id ?_); refine zcF ?_; refine ⟨_, by first  | fail, fun _ => rfl, fun _ => rfl, rfl, ?_⟩; try refine zS ?_)
    | ((with_reducible refine CallK_id ?_); refine zcT [0] ?_; refine ⟨_, _, by first | exact next_ok' _ _ _ _ _ hw | exact ih n2 (by omega) _ (r + 1) _ _ (by omega) (by omega) (by omega) (i3.drop 1) | fail, ?_⟩; try refine zS ?_)
    | exact True.intro
    | fail
    · have hb1 := ‹b1 < 0›
      rw [i4, loopF, if_pos hb1, hw]; try simp [go_sem]
    · have hb1 := ‹b1 < 0›
      rw [i4, loopF, if_pos hb1, hw]
    · have hb1 := ‹¬ b1 < 0›
      rw [i4, loopF, if_neg hb1]; try simp [go_sem]
    · have hb1 := ‹¬ b1 < 0›
      rw [i4, loopF, if_neg hb1]
  have hlen := nextF_len hw
  have hnd := needR_drop (l := l1) (r := r) (r' := r + 1) hlen (by omega) (by omega) (by omega)
  refine zT ?_
  repeat' first
  | with_reducible refine awp_seq ?_
  | ((with_reducible refine awp_region ?_); refine zS ?_)
  | ((with_reducible refine Gd_nd ?_ ?_) <;> intro hb hb2 <;> first | contradiction | (exfalso; omega) | (refine zH hb2 ?_; try clear hb2))
  | ((with_reducible refine Gd_nb ?_ ?_) <;> intro hb <;> first | contradiction | refine zH hb ?_)
  | ((with_reducible refine Gd_d ?_ ?_) <;> intro hb hb2 <;> first | contradiction | (exfalso; omega) | (refine zH hb2 ?_; try clear hb2))
  | ((with_reducible refine Gd_b ?_ ?_) <;> intro hb <;> first | contradiction | refine zH hb ?_)
  | ((with_reducible refine Res_id ?_); refine zS ?_)
  | ((with_reducible refine awp_drawnC ?_ ?_); rfl; refine zS ?_)
  | ((with_reducible refine awp_drawnA ?_ ?_); rfl; refine zS ?_)
  | ((with_reducible refine CGd_nd ?_ ?_) <;> intro hb hb2 <;> first | contradiction | (exfalso; omega) | (refine zH hb2 ?_; try clear hb2))
  | ((with_reducible refine CGd_nb ?_ ?_) <;> intro hb <;> first | contradiction | refine zH hb ?_)
  | ((with_reducible refine CGd_d ?_ ?_) <;> intro hb hb2 <;> first | contradiction | (exfalso; omega) | (refine zH hb2 ?_; try clear hb2))
  | ((with_reducible refine CGd_b ?_ ?_) <;> intro hb <;> first | contradiction | refine zH hb ?_)
  | ((with_reducible refine CRes_id ?_); refine zS ?_)
  | ((with_reducible refine DStep_id ?_); refine zdP ?_; refine ⟨_, by first  | fail, fun _ => rfl, fun _ => rfl, rfl, (fun h => by first | cases h | fail), ?_⟩; try refine zS ?_)
  | ((with_reducible refine DStep_id ?_); refine zdW ?_; refine ⟨_, by first  | fail, fun _ => rfl, fun _ => rfl, rfl, ?_⟩; try refine zS ?_)
  | ((with_reducible refine DStep_id ?_); refine zdT [0] ?_; refine ⟨_, _, by first | exact next_ok' _ _ _ _ _ hw | exact ih n2 (by omega) _ (r + 1) _ _ (by omega) (by omega) (by omega) (i3.drop 1) | fail, ?_⟩; try refine zS ?_)
  | ((with_reducible refine AWP_c ?_); refine zcdT ?_)
  | ((with_reducible refine AWP_c ?_); refine zcdF ?_)
  | ((with_reducible refine AWP_c ?_); refine zcdN ?_ ?_ <;> intro hb hb2 <;> first | contradiction | (exfalso; omega) | ((try refine zH hb2 ?_); try clear hb2))
  | ((with_reducible refine AWP_c ?_); refine zcdD ?_ ?_ <;> intro hb hb2 <;> first | contradiction | (exfalso; omega) | ((try refine zH hb2 ?_); try clear hb2))
  | ((with_reducible refine AWP_c ?_); refine zcdM ?_ ?_ <;> intro hb <;> first | contradiction | (try refine zH hb ?_))
  | ((with_reducible refine AWP_c ?_); refine zcdB ?_ ?_ <;> intro hb <;> first | contradiction | (try refine zH hb ?_))
  | ((with_reducible refine awp_ret ?_); refine fin_r ?_)
  | ((with_reducible refine awp_ret ?_); refine fin_q ?_ ?_)
  | with_reducible refine fin_qn ?_ ?_
  | ((with_reducible refine awp_skip ?_); refine zS ?_)
  | with_reducible refine awp_block ?_
  | ((with_reducible refine awp_exit ?_); refine zS ?_)
  | ((with_reducible refine CallK_id ?_); refine zcF ?_; refine ⟨_, by first  | fail, fun _ => rfl, fun _ => rfl, rfl, ?_⟩; try refine zS ?_)
  | ((with_reducible refine CallK_id ?_); refine zcT [0] ?_; refine ⟨_, _, by first | exact next_ok' _ _ _ _ _ hw | exact ih n2 (by omega) _ (r + 1) _ _ (by omega) (by omega) (by omega) (i3.drop 1) | fail, ?_⟩; try refine zS ?_)
  | exact True.intro
  | fail
  all_goals first
    | (have hb1 := ‹¬ b1 < 0›
       rw [i4, loopF, if_neg hb1]; first | done | (simp [go_sem]; done))
    | (have hb1 := ‹b1 < 0›
       have hr := ‹r = 4›
       rw [i4, loopF, if_pos hb1, hw]
       simp only [if_pos hr]
       first | done | (simp [-List.drop_one, -List.map_drop, go_sem, combF, T.op, T.n, T.kids, *]; done))
    | (have hb1 := ‹b1 < 0›
       have hr := ‹¬ r = 4›
       refine ⟨(n2, combF w t1 (rowF n2 e (r + 1) (l1.drop 1) b1).1, (rowF n2 e (r + 1) (l1.drop 1) b1).2.1, (rowF n2 e (r + 1) (l1.drop 1) b1).2.2), ⟨by simp only; omega, ?_, by simp only [hd2]; exact (i3.drop 1).drop d2, ?_⟩, by simp only; omega,
         (wk_fzB (i := 2) (j := 2) (by simp only [go_sem, Bool.not_not, List.mem_singleton, forall_eq, ↓reduceIte, if_pos, rowsAt_map, wrap64, wrapu8, List.getElem?_cons_zero, List.getElem?_cons_succ, Int.reduceToNat, Nat.reduceAdd, Nat.reduceBEq, Bool.or_false, Bool.false_or, Bool.true_or, Nat.reduceSub, Nat.reduceMul, Int.reduceAdd, Int.reduceEq, Int.reduceLT, Int.reduceLE, Int.reduceNeg, Nat.reduceLT, Nat.reduceLeDiff]; first | done | rfl)).trans (wk_cl 3 (by decide) (by simp [hP]) (by simp only [go_sem, Bool.not_not, List.mem_singleton, forall_eq, ↓reduceIte, if_pos, rowsAt_map, wrap64, wrapu8, List.getElem?_cons_zero, List.getElem?_cons_succ, Int.reduceToNat, Nat.reduceAdd, Nat.reduceBEq, Bool.or_false, Bool.false_or, Bool.true_or, Nat.reduceSub, Nat.reduceMul, Int.reduceAdd, Int.reduceEq, Int.reduceLT, Int.reduceLE, Int.reduceNeg, Nat.reduceLT, Nat.reduceLeDiff]) (by simp [-List.drop_one, -List.map_drop, go_sem, Bool.not_not, List.mem_singleton, forall_eq, ↓reduceIte, if_pos, rowsAt_map, wrap64, wrapu8, List.getElem?_cons_zero, List.getElem?_cons_succ, Int.reduceToNat, Nat.reduceAdd, Nat.reduceBEq, Bool.or_false, Bool.false_or, Bool.true_or, Nat.reduceSub, Nat.reduceMul, Int.reduceAdd, Int.reduceEq, Int.reduceLT, Int.reduceLE, Int.reduceNeg, Nat.reduceLT, Nat.reduceLeDiff, combF, T.op, T.n, T.kids, *]))⟩
       · simp only [hd2, needR, List.length_drop] at *; omega
       · rw [i4, loopF, if_pos hb1, hw]; simp only [if_neg hr])
    | trace_state
theorem prow (m : Nat) : Prow m := by
  induction m using Nat.strongRecOn with
  | _ m ih =>
    cases m with
    | zero => intro e r l b h1 h8 hn; simp only [needR] at hn; omega
    | succ m => exact row_ok m (fun k hk => ih k (by omega))
theorem prow_ok (e : Int) (l : List Tok) (b : Int) (hk : okToks l) : AFn env 24 [P0, aI 1] (PH l e b) (rowF (20 * l.length + 16) e 1 l b).1.a (PH (rowF (20 * l.length + 16) e 1 l b).2.1 e (rowF (20 * l.length + 16) e 1 l b).2.2) :=
  prow _ e 1 l b (by omega) (by omega) (by simp only [needR]; omega) hk
end Go.Eng
