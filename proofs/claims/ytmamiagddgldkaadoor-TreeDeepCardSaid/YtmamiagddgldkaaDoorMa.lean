/- Each function of the program, walked over plain data: what it comes to, at all arguments. -/
import Derived.Test.YtmamiagddgldkaaDoorEf
import Derived.Test.YtmamiagddgldkaaDoorProg
import Derived.KernelRfl
import Derived.Test.YtmamiagddgldkaaDoorEg
import Derived.Lib.UnsafeStr
import Derived.WalkKit
import Derived.Laws.Externs
import Derived.Shelf.RegionOpenPlain
namespace Go.Eng
open Go
set_option linter.unusedSimpArgs false
set_option linter.unusedVariables false

abbrev Str := List UInt8
def dI (n : Int) : D := .sc (.int .i64 n)
def dS (s : Str) : D := .sc (.string (st s))
def dB (b : Bool) : D := .sc (.bool b)
def dU (c : Int) : D := .sc (.int .u8 c)
def aI (n : Int) : A := .c (.d (.sc (.int .i64 n)))
def aS (s : Str) : A := .c (.d (.sc (.string (st s))))
def aB (b : Bool) : A := .c (.d (.sc (.bool b)))
def aU (c : Int) : A := .c (.d (.sc (.int .u8 c)))
def aF (l : List (List D)) : A := .c (.d (.fz l))
def P0 : A := .c (.ptr 0 0 0 0)

structure At where
  name : Str
  val : Str
deriving DecidableEq
instance : Inhabited At := ⟨⟨[], []⟩⟩
def At.row (a : At) : List D := [dS a.name, dS a.val]
def At.a (a : At) : A := .agg [.d (dS a.name), .d (dS a.val)]
structure Mk where
  kind : Int
  pos : Int
  name : Str
  ats : List At
  text : Str
deriving DecidableEq
instance : Inhabited Mk := ⟨⟨0, 0, [], [], []⟩⟩
def Mk.row (m : Mk) : List D := [dI m.kind, dI m.pos, dS m.name, .fz (m.ats.map At.row), dS m.text]
def Mk.a (m : Mk) : A := .agg [.d (dI m.kind), .d (dI m.pos), .d (dS m.name), .d (.fz (m.ats.map At.row)), .d (dS m.text)]
inductive El
  | mk (name : Str) (ats : List At) (kids : List El) (text : Str)
def El.name : El → Str | .mk n _ _ _ => n
def El.ats : El → List At | .mk _ a _ _ => a
def El.kids : El → List El | .mk _ _ k _ => k
def El.text : El → Str | .mk _ _ _ t => t
def e0 : El := .mk [] [] [] []
instance : Inhabited El := ⟨e0⟩
theorem El.eta (e : El) : .mk e.name e.ats e.kids e.text = e := by cases e; rfl
mutual
def El.row : El → List D
  | .mk n a k t => [dS n, .fz (a.map At.row), .fz (El.rows k), dS t]
def El.rows : List El → List (List D)
  | [] => []
  | t :: l => t.row :: El.rows l
end
theorem El.rows_eq (l : List El) : El.rows l = l.map El.row := by
  induction l with
  | nil => rfl
  | cons t l ih => simp [El.rows, ih]
theorem El.row_eq (t : El) : t.row = [dS t.name, .fz (t.ats.map At.row), .fz (t.kids.map El.row), dS t.text] := by
  cases t with | mk n a k x => simp [El.row, El.rows_eq, El.name, El.ats, El.kids, El.text]
def El.a (t : El) : A := .agg [.d (dS t.name), .d (.fz (t.ats.map At.row)), .d (.fz (t.kids.map El.row)), .d (dS t.text)]
def El.bs (t : El) : List C := [.d (dS t.name), .d (.fz (t.ats.map At.row)), .d (.fz (t.kids.map El.row)), .d (dS t.text)]
mutual
def El.size : El → Nat
  | .mk _ _ k _ => El.sizes k + 1
def El.sizes : List El → Nat
  | [] => 0
  | t :: l => t.size + El.sizes l
end
theorem El.size_eq (t : El) : t.size = El.sizes t.kids + 1 := by cases t; rfl
theorem El.size_kid {k : El} : ∀ {l : List El}, k ∈ l → k.size ≤ El.sizes l
  | [], h => by simp at h
  | a :: l, h => by
    simp only [El.sizes]
    rcases List.mem_cons.1 h with rfl | h
    · omega
    · have := El.size_kid h; omega
theorem El.size_lt {k t : El} (h : k ∈ t.kids) : k.size < t.size := by
  have := El.size_kid h; have := El.size_eq t; omega
theorem El.size_pos (t : El) : 0 < t.size := by rw [El.size_eq]; omega
theorem El.len_le : ∀ (l : List El), l.length ≤ El.sizes l
  | [] => by simp
  | t :: l => by have := El.len_le l; have := t.size_pos; simp only [El.sizes, List.length_cons]; omega
theorem El.kids_len (t : El) : t.kids.length < t.size := by have := El.len_le t.kids; have := El.size_eq t; omega

structure Ec where
  c : Int
  s : Str
instance : Inhabited Ec := ⟨⟨0, []⟩⟩
def Ec.row (e : Ec) : List D := [dU e.c, dS e.s]
def Ec.a (e : Ec) : A := .agg [.d (dU e.c), .d (dS e.s)]
def escs : List Ec := [⟨60, [38, 108, 116, 59]⟩, ⟨62, [38, 103, 116, 59]⟩, ⟨38, [38, 97, 109, 112, 59]⟩, ⟨34, [38, 113, 117, 111, 116, 59]⟩]

theorem byteAt_gt {l : Str} {i : Nat} : byteAt l i = ((gt l i).toNat : Int) := rfl
theorem subL_n {α : Type} (n : Nat) (s : List α) : subL none (some n) s = s.take n := by simp [subL, loOf, hiOf]
theorem subL_l {α : Type} (n : Nat) (s : List α) : subL (some n) none s = s.drop n := by simp [subL, loOf, hiOf]
theorem subL_ln {α : Type} (k n : Nat) (s : List α) : subL (some k) (some n) s = (s.take n).drop k := by simp [subL, loOf, hiOf]
theorem dropM {α β : Type} (f : α → β) (l : List α) (i : Nat) : (l.map f).drop i = (l.drop i).map f := (List.map_drop ..).symm
theorem cutM (k : Nat) (l : List D) : cutCells k (l.map .d) = l.map .d := by
  rw [cutCells_eq, List.map_map]; rfl
attribute [go_sem] cutM dropM subL_n subL_l subL_ln dI dS dB dU aI aS aB aU aF P0 El.row_eq El.a El.bs At.row At.a Mk.row Mk.a Ec.row Ec.a
end Go.Eng
open Go Go.Proofs
namespace Go.Eng
set_option linter.unusedSimpArgs false
noncomputable def env : Env := mkEnv Tryd.prog (by kernel_rfl) (fun g => match g with | 0 => .pa (escs.map Ec.row) | _ => .any) (fun g => by split <;> rfl) [59, 5] [(25, 2)]
theorem g0 : env.glob 0 = .pa (escs.map Ec.row) := rfl
attribute [go_sem] g0

theorem t2und : env.und 2 = some (.int .i64) := by kernel_rfl
theorem t2kind : env.kind 2 = some .i64 := by kernel_rfl
theorem t2ty : env.ty 2 = none := by kernel_rfl
theorem t2agg : env.agg 2 = some false := by kernel_rfl
theorem t2size : env.size 2 = some 1 := by kernel_rfl
theorem t2inf : env.inf 2 = some (1, 8, (.int .i64 0)) := by kernel_rfl
theorem t3und : env.und 3 = some (.int .i64) := by kernel_rfl
theorem t3kind : env.kind 3 = some .i64 := by kernel_rfl
theorem t3ty : env.ty 3 = none := by kernel_rfl
theorem t3agg : env.agg 3 = some false := by kernel_rfl
theorem t3size : env.size 3 = some 1 := by kernel_rfl
theorem t3inf : env.inf 3 = some (1, 8, (.int .i64 0)) := by kernel_rfl
theorem t4und : env.und 4 = some .bool := by kernel_rfl
theorem t4bln : env.bln 4 = true := by kernel_rfl
theorem t4ty : env.ty 4 = none := by kernel_rfl
theorem t4agg : env.agg 4 = some false := by kernel_rfl
theorem t4size : env.size 4 = some 1 := by kernel_rfl
theorem t4inf : env.inf 4 = some (1, 1, (.bool false)) := by kernel_rfl
theorem t5und : env.und 5 = some (.int .u8) := by kernel_rfl
theorem t5kind : env.kind 5 = some .u8 := by kernel_rfl
theorem t5ty : env.ty 5 = some 5 := by kernel_rfl
theorem t5agg : env.agg 5 = some false := by kernel_rfl
theorem t5size : env.size 5 = some 1 := by kernel_rfl
theorem t5inf : env.inf 5 = some (1, 1, (.int .u8 0)) := by kernel_rfl
theorem t9und : env.und 9 = some .string := by kernel_rfl
theorem t9str : env.str 9 = true := by kernel_rfl
theorem t9noInt : env.noInt 9 = true := by kernel_rfl
theorem t9ty : env.ty 9 = none := by kernel_rfl
theorem t9agg : env.agg 9 = some false := by kernel_rfl
theorem t9size : env.size 9 = some 1 := by kernel_rfl
theorem t9inf : env.inf 9 = some (1, 16, (.string ⟨#[]⟩)) := by kernel_rfl
theorem t12und : env.und 12 = some (.int .u64) := by kernel_rfl
theorem t12kind : env.kind 12 = some .u64 := by kernel_rfl
theorem t12ty : env.ty 12 = none := by kernel_rfl
theorem t12agg : env.agg 12 = some false := by kernel_rfl
theorem t12size : env.size 12 = some 1 := by kernel_rfl
theorem t12inf : env.inf 12 = some (1, 8, (.int .u64 0)) := by kernel_rfl
theorem t13isS : env.isStruct 13 = true := by kernel_rfl
theorem t13f0 : env.fld 13 0 = some (0, 9) := by kernel_rfl
theorem t13f1 : env.fld 13 1 = some (1, 12) := by kernel_rfl
theorem t13nx : env.nx 13 = none := by kernel_rfl
theorem t13ty : env.ty 13 = none := by kernel_rfl
theorem t13agg : env.agg 13 = some true := by kernel_rfl
theorem t13size : env.size 13 = some 2 := by kernel_rfl
theorem t13inf : env.inf 13 = some (2, 24, (.agg #[(.string ⟨#[]⟩), (.int .u64 0)])) := by kernel_rfl
theorem t21und : env.und 21 = some (.int .i32) := by kernel_rfl
theorem t21kind : env.kind 21 = some .i32 := by kernel_rfl
theorem t21ty : env.ty 21 = none := by kernel_rfl
theorem t21agg : env.agg 21 = some false := by kernel_rfl
theorem t21size : env.size 21 = some 1 := by kernel_rfl
theorem t21inf : env.inf 21 = some (1, 4, (.int .i32 0)) := by kernel_rfl
theorem t22und : env.und 22 = some (.slice 53) := by kernel_rfl
theorem t22noInt : env.noInt 22 = true := by kernel_rfl
theorem t22elt : env.elt 22 = some 53 := by kernel_rfl
theorem t22ty : env.ty 22 = none := by kernel_rfl
theorem t22agg : env.agg 22 = some false := by kernel_rfl
theorem t22size : env.size 22 = some 1 := by kernel_rfl
theorem t22inf : env.inf 22 = some (1, 24, (.slice none 0 0)) := by kernel_rfl
theorem t23und : env.und 23 = some (.slice 25) := by kernel_rfl
theorem t23noInt : env.noInt 23 = true := by kernel_rfl
theorem t23elt : env.elt 23 = some 25 := by kernel_rfl
theorem t23ty : env.ty 23 = none := by kernel_rfl
theorem t23agg : env.agg 23 = some false := by kernel_rfl
theorem t23size : env.size 23 = some 1 := by kernel_rfl
theorem t23inf : env.inf 23 = some (1, 24, (.slice none 0 0)) := by kernel_rfl
theorem t24isS : env.isStruct 24 = true := by kernel_rfl
theorem t24f0 : env.fld 24 0 = some (0, 9) := by kernel_rfl
theorem t24f1 : env.fld 24 1 = some (1, 22) := by kernel_rfl
theorem t24f2 : env.fld 24 2 = some (2, 23) := by kernel_rfl
theorem t24f3 : env.fld 24 3 = some (3, 9) := by kernel_rfl
theorem t24nx : env.nx 24 = none := by kernel_rfl
theorem t24ty : env.ty 24 = none := by kernel_rfl
theorem t24agg : env.agg 24 = some true := by kernel_rfl
theorem t24size : env.size 24 = some 4 := by kernel_rfl
theorem t24inf : env.inf 24 = some (4, 80, (.agg #[(.string ⟨#[]⟩), (.slice none 0 0), (.slice none 0 0), (.string ⟨#[]⟩)])) := by kernel_rfl
theorem t25isS : env.isStruct 25 = true := by kernel_rfl
theorem t25f0 : env.fld 25 0 = some (0, 9) := by kernel_rfl
theorem t25f1 : env.fld 25 1 = some (1, 22) := by kernel_rfl
theorem t25f2 : env.fld 25 2 = some (2, 23) := by kernel_rfl
theorem t25f3 : env.fld 25 3 = some (3, 9) := by kernel_rfl
theorem t25nx : env.nx 25 = some 2 := by kernel_rfl
theorem t25ty : env.ty 25 = none := by kernel_rfl
theorem t25agg : env.agg 25 = some true := by kernel_rfl
theorem t25size : env.size 25 = some 4 := by kernel_rfl
theorem t25inf : env.inf 25 = some (4, 80, (.agg #[(.string ⟨#[]⟩), (.slice none 0 0), (.slice none 0 0), (.string ⟨#[]⟩)])) := by kernel_rfl
theorem t27und : env.und 27 = some (.pointer 29) := by kernel_rfl
theorem t27ptr : env.ptr 27 = true := by kernel_rfl
theorem t27ty : env.ty 27 = none := by kernel_rfl
theorem t27agg : env.agg 27 = some false := by kernel_rfl
theorem t27size : env.size 27 = some 1 := by kernel_rfl
theorem t27inf : env.inf 27 = some (1, 8, (.pointer none)) := by kernel_rfl
theorem t28isS : env.isStruct 28 = true := by kernel_rfl
theorem t28f0 : env.fld 28 0 = some (0, 3) := by kernel_rfl
theorem t28seq : env.seq 28 = some 1 := by kernel_rfl
theorem t28nx : env.nx 28 = none := by kernel_rfl
theorem t28ty : env.ty 28 = none := by kernel_rfl
theorem t28agg : env.agg 28 = some true := by kernel_rfl
theorem t28size : env.size 28 = some 1 := by kernel_rfl
theorem t28inf : env.inf 28 = some (1, 8, (.agg #[(.int .i64 0)])) := by kernel_rfl
theorem t29isS : env.isStruct 29 = true := by kernel_rfl
theorem t29f0 : env.fld 29 0 = some (0, 3) := by kernel_rfl
theorem t29seq : env.seq 29 = some 1 := by kernel_rfl
theorem t29nx : env.nx 29 = none := by kernel_rfl
theorem t29ty : env.ty 29 = none := by kernel_rfl
theorem t29agg : env.agg 29 = some true := by kernel_rfl
theorem t29size : env.size 29 = some 1 := by kernel_rfl
theorem t29inf : env.inf 29 = some (1, 8, (.agg #[(.int .i64 0)])) := by kernel_rfl
theorem t31und : env.und 31 = some (.int .i64) := by kernel_rfl
theorem t31kind : env.kind 31 = some .i64 := by kernel_rfl
theorem t31ty : env.ty 31 = none := by kernel_rfl
theorem t31agg : env.agg 31 = some false := by kernel_rfl
theorem t31size : env.size 31 = some 1 := by kernel_rfl
theorem t31inf : env.inf 31 = some (1, 8, (.int .i64 0)) := by kernel_rfl
theorem t37und : env.und 37 = some (.slice 74) := by kernel_rfl
theorem t37noInt : env.noInt 37 = true := by kernel_rfl
theorem t37elt : env.elt 37 = some 74 := by kernel_rfl
theorem t37ty : env.ty 37 = none := by kernel_rfl
theorem t37agg : env.agg 37 = some false := by kernel_rfl
theorem t37size : env.size 37 = some 1 := by kernel_rfl
theorem t37inf : env.inf 37 = some (1, 24, (.slice none 0 0)) := by kernel_rfl
theorem t38und : env.und 38 = some (.slice 40) := by kernel_rfl
theorem t38noInt : env.noInt 38 = true := by kernel_rfl
theorem t38elt : env.elt 38 = some 40 := by kernel_rfl
theorem t38ty : env.ty 38 = none := by kernel_rfl
theorem t38agg : env.agg 38 = some false := by kernel_rfl
theorem t38size : env.size 38 = some 1 := by kernel_rfl
theorem t38inf : env.inf 38 = some (1, 24, (.slice none 0 0)) := by kernel_rfl
theorem t39isS : env.isStruct 39 = true := by kernel_rfl
theorem t39f0 : env.fld 39 0 = some (0, 9) := by kernel_rfl
theorem t39f1 : env.fld 39 1 = some (1, 37) := by kernel_rfl
theorem t39f2 : env.fld 39 2 = some (2, 38) := by kernel_rfl
theorem t39f3 : env.fld 39 3 = some (3, 9) := by kernel_rfl
theorem t39nx : env.nx 39 = none := by kernel_rfl
theorem t39ty : env.ty 39 = none := by kernel_rfl
theorem t39agg : env.agg 39 = some true := by kernel_rfl
theorem t39size : env.size 39 = some 4 := by kernel_rfl
theorem t39inf : env.inf 39 = some (4, 80, (.agg #[(.string ⟨#[]⟩), (.slice none 0 0), (.slice none 0 0), (.string ⟨#[]⟩)])) := by kernel_rfl
theorem t40isS : env.isStruct 40 = true := by kernel_rfl
theorem t40f0 : env.fld 40 0 = some (0, 9) := by kernel_rfl
theorem t40f1 : env.fld 40 1 = some (1, 37) := by kernel_rfl
theorem t40f2 : env.fld 40 2 = some (2, 38) := by kernel_rfl
theorem t40f3 : env.fld 40 3 = some (3, 9) := by kernel_rfl
theorem t40nx : env.nx 40 = none := by kernel_rfl
theorem t40ty : env.ty 40 = none := by kernel_rfl
theorem t40agg : env.agg 40 = some true := by kernel_rfl
theorem t40size : env.size 40 = some 4 := by kernel_rfl
theorem t40inf : env.inf 40 = some (4, 80, (.agg #[(.string ⟨#[]⟩), (.slice none 0 0), (.slice none 0 0), (.string ⟨#[]⟩)])) := by kernel_rfl
theorem t52isS : env.isStruct 52 = true := by kernel_rfl
theorem t52f0 : env.fld 52 0 = some (0, 9) := by kernel_rfl
theorem t52f1 : env.fld 52 1 = some (1, 9) := by kernel_rfl
theorem t52nx : env.nx 52 = none := by kernel_rfl
theorem t52ty : env.ty 52 = none := by kernel_rfl
theorem t52agg : env.agg 52 = some true := by kernel_rfl
theorem t52size : env.size 52 = some 2 := by kernel_rfl
theorem t52inf : env.inf 52 = some (2, 32, (.agg #[(.string ⟨#[]⟩), (.string ⟨#[]⟩)])) := by kernel_rfl
theorem t53isS : env.isStruct 53 = true := by kernel_rfl
theorem t53f0 : env.fld 53 0 = some (0, 9) := by kernel_rfl
theorem t53f1 : env.fld 53 1 = some (1, 9) := by kernel_rfl
theorem t53nx : env.nx 53 = none := by kernel_rfl
theorem t53ty : env.ty 53 = none := by kernel_rfl
theorem t53agg : env.agg 53 = some true := by kernel_rfl
theorem t53size : env.size 53 = some 2 := by kernel_rfl
theorem t53inf : env.inf 53 = some (2, 32, (.agg #[(.string ⟨#[]⟩), (.string ⟨#[]⟩)])) := by kernel_rfl
theorem t56und : env.und 56 = some (.pointer 59) := by kernel_rfl
theorem t56ptr : env.ptr 56 = true := by kernel_rfl
theorem t56ty : env.ty 56 = none := by kernel_rfl
theorem t56agg : env.agg 56 = some false := by kernel_rfl
theorem t56size : env.size 56 = some 1 := by kernel_rfl
theorem t56inf : env.inf 56 = some (1, 8, (.pointer none)) := by kernel_rfl
theorem t57und : env.und 57 = some (.slice 5) := by kernel_rfl
theorem t57noInt : env.noInt 57 = true := by kernel_rfl
theorem t57elt : env.elt 57 = some 5 := by kernel_rfl
theorem t57ty : env.ty 57 = none := by kernel_rfl
theorem t57agg : env.agg 57 = some false := by kernel_rfl
theorem t57size : env.size 57 = some 1 := by kernel_rfl
theorem t57inf : env.inf 57 = some (1, 24, (.slice none 0 0)) := by kernel_rfl
theorem t58isS : env.isStruct 58 = true := by kernel_rfl
theorem t58f0 : env.fld 58 0 = some (0, 56) := by kernel_rfl
theorem t58f1 : env.fld 58 1 = some (1, 57) := by kernel_rfl
theorem t58nx : env.nx 58 = none := by kernel_rfl
theorem t58ty : env.ty 58 = none := by kernel_rfl
theorem t58agg : env.agg 58 = some true := by kernel_rfl
theorem t58size : env.size 58 = some 2 := by kernel_rfl
theorem t58inf : env.inf 58 = some (2, 32, (.agg #[(.pointer none), (.slice none 0 0)])) := by kernel_rfl
theorem t59isS : env.isStruct 59 = true := by kernel_rfl
theorem t59f0 : env.fld 59 0 = some (0, 56) := by kernel_rfl
theorem t59f1 : env.fld 59 1 = some (1, 57) := by kernel_rfl
theorem t59nx : env.nx 59 = none := by kernel_rfl
theorem t59ty : env.ty 59 = some 59 := by kernel_rfl
theorem t59agg : env.agg 59 = some true := by kernel_rfl
theorem t59size : env.size 59 = some 2 := by kernel_rfl
theorem t59inf : env.inf 59 = some (2, 32, (.agg #[(.pointer none), (.slice none 0 0)])) := by kernel_rfl
theorem t63und : env.und 63 = some (.slice 72) := by kernel_rfl
theorem t63noInt : env.noInt 63 = true := by kernel_rfl
theorem t63elt : env.elt 63 = some 72 := by kernel_rfl
theorem t63ty : env.ty 63 = none := by kernel_rfl
theorem t63agg : env.agg 63 = some false := by kernel_rfl
theorem t63size : env.size 63 = some 1 := by kernel_rfl
theorem t63inf : env.inf 63 = some (1, 24, (.slice none 0 0)) := by kernel_rfl
theorem t66und : env.und 66 = some (.pointer 70) := by kernel_rfl
theorem t66ptr : env.ptr 66 = true := by kernel_rfl
theorem t66ty : env.ty 66 = none := by kernel_rfl
theorem t66agg : env.agg 66 = some false := by kernel_rfl
theorem t66size : env.size 66 = some 1 := by kernel_rfl
theorem t66inf : env.inf 66 = some (1, 8, (.pointer none)) := by kernel_rfl
theorem t67und : env.und 67 = some (.slice 25) := by kernel_rfl
theorem t67noInt : env.noInt 67 = true := by kernel_rfl
theorem t67elt : env.elt 67 = some 25 := by kernel_rfl
theorem t67ty : env.ty 67 = none := by kernel_rfl
theorem t67agg : env.agg 67 = some false := by kernel_rfl
theorem t67size : env.size 67 = some 1 := by kernel_rfl
theorem t67inf : env.inf 67 = some (1, 24, (.slice none 0 0)) := by kernel_rfl
theorem t68und : env.und 68 = some (.pointer 25) := by kernel_rfl
theorem t68ptr : env.ptr 68 = true := by kernel_rfl
theorem t68ty : env.ty 68 = none := by kernel_rfl
theorem t68agg : env.agg 68 = some false := by kernel_rfl
theorem t68size : env.size 68 = some 1 := by kernel_rfl
theorem t68inf : env.inf 68 = some (1, 8, (.pointer none)) := by kernel_rfl
theorem t69isS : env.isStruct 69 = true := by kernel_rfl
theorem t69f0 : env.fld 69 0 = some (0, 67) := by kernel_rfl
theorem t69f1 : env.fld 69 1 = some (1, 68) := by kernel_rfl
theorem t69nx : env.nx 69 = none := by kernel_rfl
theorem t69ty : env.ty 69 = none := by kernel_rfl
theorem t69agg : env.agg 69 = some true := by kernel_rfl
theorem t69size : env.size 69 = some 2 := by kernel_rfl
theorem t69inf : env.inf 69 = some (2, 32, (.agg #[(.slice none 0 0), (.pointer none)])) := by kernel_rfl
theorem t70isS : env.isStruct 70 = true := by kernel_rfl
theorem t70f0 : env.fld 70 0 = some (0, 67) := by kernel_rfl
theorem t70f1 : env.fld 70 1 = some (1, 68) := by kernel_rfl
theorem t70nx : env.nx 70 = none := by kernel_rfl
theorem t70ty : env.ty 70 = none := by kernel_rfl
theorem t70agg : env.agg 70 = some true := by kernel_rfl
theorem t70size : env.size 70 = some 2 := by kernel_rfl
theorem t70inf : env.inf 70 = some (2, 32, (.agg #[(.slice none 0 0), (.pointer none)])) := by kernel_rfl
theorem t71isS : env.isStruct 71 = true := by kernel_rfl
theorem t71f0 : env.fld 71 0 = some (0, 3) := by kernel_rfl
theorem t71f1 : env.fld 71 1 = some (1, 3) := by kernel_rfl
theorem t71f2 : env.fld 71 2 = some (2, 9) := by kernel_rfl
theorem t71f3 : env.fld 71 3 = some (3, 22) := by kernel_rfl
theorem t71f4 : env.fld 71 4 = some (4, 9) := by kernel_rfl
theorem t71nx : env.nx 71 = none := by kernel_rfl
theorem t71ty : env.ty 71 = none := by kernel_rfl
theorem t71agg : env.agg 71 = some true := by kernel_rfl
theorem t71size : env.size 71 = some 5 := by kernel_rfl
theorem t71inf : env.inf 71 = some (5, 72, (.agg #[(.int .i64 0), (.int .i64 0), (.string ⟨#[]⟩), (.slice none 0 0), (.string ⟨#[]⟩)])) := by kernel_rfl
theorem t72isS : env.isStruct 72 = true := by kernel_rfl
theorem t72f0 : env.fld 72 0 = some (0, 3) := by kernel_rfl
theorem t72f1 : env.fld 72 1 = some (1, 3) := by kernel_rfl
theorem t72f2 : env.fld 72 2 = some (2, 9) := by kernel_rfl
theorem t72f3 : env.fld 72 3 = some (3, 22) := by kernel_rfl
theorem t72f4 : env.fld 72 4 = some (4, 9) := by kernel_rfl
theorem t72nx : env.nx 72 = none := by kernel_rfl
theorem t72ty : env.ty 72 = none := by kernel_rfl
theorem t72agg : env.agg 72 = some true := by kernel_rfl
theorem t72size : env.size 72 = some 5 := by kernel_rfl
theorem t72inf : env.inf 72 = some (5, 72, (.agg #[(.int .i64 0), (.int .i64 0), (.string ⟨#[]⟩), (.slice none 0 0), (.string ⟨#[]⟩)])) := by kernel_rfl
theorem t74isS : env.isStruct 74 = true := by kernel_rfl
theorem t74f0 : env.fld 74 0 = some (0, 9) := by kernel_rfl
theorem t74f1 : env.fld 74 1 = some (1, 9) := by kernel_rfl
theorem t74nx : env.nx 74 = none := by kernel_rfl
theorem t74ty : env.ty 74 = none := by kernel_rfl
theorem t74agg : env.agg 74 = some true := by kernel_rfl
theorem t74size : env.size 74 = some 2 := by kernel_rfl
theorem t74inf : env.inf 74 = some (2, 32, (.agg #[(.string ⟨#[]⟩), (.string ⟨#[]⟩)])) := by kernel_rfl
theorem t84und : env.und 84 = some (.pointer 5) := by kernel_rfl
theorem t84ptr : env.ptr 84 = true := by kernel_rfl
theorem t84ty : env.ty 84 = none := by kernel_rfl
theorem t84agg : env.agg 84 = some false := by kernel_rfl
theorem t84size : env.size 84 = some 1 := by kernel_rfl
theorem t84inf : env.inf 84 = some (1, 8, (.pointer none)) := by kernel_rfl
theorem t92isS : env.isStruct 92 = true := by kernel_rfl
theorem t92f0 : env.fld 92 0 = some (0, 3) := by kernel_rfl
theorem t92f1 : env.fld 92 1 = some (1, 3) := by kernel_rfl
theorem t92f2 : env.fld 92 2 = some (2, 9) := by kernel_rfl
theorem t92f3 : env.fld 92 3 = some (3, 37) := by kernel_rfl
theorem t92f4 : env.fld 92 4 = some (4, 9) := by kernel_rfl
theorem t92nx : env.nx 92 = none := by kernel_rfl
theorem t92ty : env.ty 92 = none := by kernel_rfl
theorem t92agg : env.agg 92 = some true := by kernel_rfl
theorem t92size : env.size 92 = some 5 := by kernel_rfl
theorem t92inf : env.inf 92 = some (5, 72, (.agg #[(.int .i64 0), (.int .i64 0), (.string ⟨#[]⟩), (.slice none 0 0), (.string ⟨#[]⟩)])) := by kernel_rfl
theorem t93isS : env.isStruct 93 = true := by kernel_rfl
theorem t93f0 : env.fld 93 0 = some (0, 3) := by kernel_rfl
theorem t93f1 : env.fld 93 1 = some (1, 3) := by kernel_rfl
theorem t93f2 : env.fld 93 2 = some (2, 9) := by kernel_rfl
theorem t93f3 : env.fld 93 3 = some (3, 37) := by kernel_rfl
theorem t93f4 : env.fld 93 4 = some (4, 9) := by kernel_rfl
theorem t93nx : env.nx 93 = none := by kernel_rfl
theorem t93ty : env.ty 93 = none := by kernel_rfl
theorem t93agg : env.agg 93 = some true := by kernel_rfl
theorem t93size : env.size 93 = some 5 := by kernel_rfl
theorem t93inf : env.inf 93 = some (5, 72, (.agg #[(.int .i64 0), (.int .i64 0), (.string ⟨#[]⟩), (.slice none 0 0), (.string ⟨#[]⟩)])) := by kernel_rfl
theorem t98und : env.und 98 = some (.slice 100) := by kernel_rfl
theorem t98noInt : env.noInt 98 = true := by kernel_rfl
theorem t98elt : env.elt 98 = some 100 := by kernel_rfl
theorem t98ty : env.ty 98 = none := by kernel_rfl
theorem t98agg : env.agg 98 = some false := by kernel_rfl
theorem t98size : env.size 98 = some 1 := by kernel_rfl
theorem t98inf : env.inf 98 = some (1, 24, (.slice none 0 0)) := by kernel_rfl
theorem t99isS : env.isStruct 99 = true := by kernel_rfl
theorem t99f0 : env.fld 99 0 = some (0, 5) := by kernel_rfl
theorem t99f1 : env.fld 99 1 = some (1, 9) := by kernel_rfl
theorem t99nx : env.nx 99 = none := by kernel_rfl
theorem t99ty : env.ty 99 = none := by kernel_rfl
theorem t99agg : env.agg 99 = some true := by kernel_rfl
theorem t99size : env.size 99 = some 2 := by kernel_rfl
theorem t99inf : env.inf 99 = some (2, 24, (.agg #[(.int .u8 0), (.string ⟨#[]⟩)])) := by kernel_rfl
theorem t100isS : env.isStruct 100 = true := by kernel_rfl
theorem t100f0 : env.fld 100 0 = some (0, 5) := by kernel_rfl
theorem t100f1 : env.fld 100 1 = some (1, 9) := by kernel_rfl
theorem t100nx : env.nx 100 = none := by kernel_rfl
theorem t100ty : env.ty 100 = none := by kernel_rfl
theorem t100agg : env.agg 100 = some true := by kernel_rfl
theorem t100size : env.size 100 = some 2 := by kernel_rfl
theorem t100inf : env.inf 100 = some (2, 24, (.agg #[(.int .u8 0), (.string ⟨#[]⟩)])) := by kernel_rfl
theorem t101und : env.und 101 = some (.array 4 100) := by kernel_rfl
theorem t101arr : env.arr 101 = some (4, 100) := by kernel_rfl
theorem t101ty : env.ty 101 = none := by kernel_rfl
theorem t101agg : env.agg 101 = some true := by kernel_rfl
theorem t101size : env.size 101 = some 8 := by kernel_rfl
theorem t101inf : env.inf 101 = some (8, 96, (.agg #[(.int .u8 0), (.string ⟨#[]⟩), (.int .u8 0), (.string ⟨#[]⟩), (.int .u8 0), (.string ⟨#[]⟩), (.int .u8 0), (.string ⟨#[]⟩)])) := by kernel_rfl
theorem t112und : env.und 112 = some (.pointer 67) := by kernel_rfl
theorem t112ptr : env.ptr 112 = true := by kernel_rfl
theorem t112ty : env.ty 112 = none := by kernel_rfl
theorem t112agg : env.agg 112 = some false := by kernel_rfl
theorem t112size : env.size 112 = some 1 := by kernel_rfl
theorem t112inf : env.inf 112 = some (1, 8, (.pointer none)) := by kernel_rfl
theorem t131und : env.und 131 = some (.int .u32) := by kernel_rfl
theorem t131kind : env.kind 131 = some .u32 := by kernel_rfl
theorem t131ty : env.ty 131 = none := by kernel_rfl
theorem t131agg : env.agg 131 = some false := by kernel_rfl
theorem t131size : env.size 131 = some 1 := by kernel_rfl
theorem t131inf : env.inf 131 = some (1, 4, (.int .u32 0)) := by kernel_rfl
attribute [go_sem] t2und t2kind t2ty t2agg t2size t2inf t3und t3kind t3ty t3agg t3size t3inf t4und t4bln t4ty t4agg t4size t4inf t5und t5kind t5ty t5agg t5size t5inf t9und t9str t9noInt t9ty t9agg t9size t9inf t12und t12kind t12ty t12agg t12size t12inf t13isS t13f0 t13f1 t13nx t13ty t13agg t13size t13inf t21und t21kind t21ty t21agg t21size t21inf t22und t22noInt t22elt t22ty t22agg t22size t22inf t23und t23noInt t23elt t23ty t23agg t23size t23inf t24isS t24f0 t24f1 t24f2 t24f3 t24nx t24ty t24agg t24size t24inf t25isS t25f0 t25f1 t25f2 t25f3 t25nx t25ty t25agg t25size t25inf t27und t27ptr t27ty t27agg t27size t27inf t28isS t28f0 t28seq t28nx t28ty t28agg t28size t28inf t29isS t29f0 t29seq t29nx t29ty t29agg t29size t29inf t31und t31kind t31ty t31agg t31size t31inf t37und t37noInt t37elt t37ty t37agg t37size t37inf t38und t38noInt t38elt t38ty t38agg t38size t38inf t39isS t39f0 t39f1 t39f2 t39f3 t39nx t39ty t39agg t39size t39inf t40isS t40f0 t40f1 t40f2 t40f3 t40nx t40ty t40agg t40size t40inf t52isS t52f0 t52f1 t52nx t52ty t52agg t52size t52inf t53isS t53f0 t53f1 t53nx t53ty t53agg t53size t53inf t56und t56ptr t56ty t56agg t56size t56inf t57und t57noInt t57elt t57ty t57agg t57size t57inf t58isS t58f0 t58f1 t58nx t58ty t58agg t58size t58inf t59isS t59f0 t59f1 t59nx t59ty t59agg t59size t59inf t63und t63noInt t63elt t63ty t63agg t63size t63inf t66und t66ptr t66ty t66agg t66size t66inf t67und t67noInt t67elt t67ty t67agg t67size t67inf t68und t68ptr t68ty t68agg t68size t68inf t69isS t69f0 t69f1 t69nx t69ty t69agg t69size t69inf t70isS t70f0 t70f1 t70nx t70ty t70agg t70size t70inf t71isS t71f0 t71f1 t71f2 t71f3 t71f4 t71nx t71ty t71agg t71size t71inf t72isS t72f0 t72f1 t72f2 t72f3 t72f4 t72nx t72ty t72agg t72size t72inf t74isS t74f0 t74f1 t74nx t74ty t74agg t74size t74inf t84und t84ptr t84ty t84agg t84size t84inf t92isS t92f0 t92f1 t92f2 t92f3 t92f4 t92nx t92ty t92agg t92size t92inf t93isS t93f0 t93f1 t93f2 t93f3 t93f4 t93nx t93ty t93agg t93size t93inf t98und t98noInt t98elt t98ty t98agg t98size t98inf t99isS t99f0 t99f1 t99nx t99ty t99agg t99size t99inf t100isS t100f0 t100f1 t100nx t100ty t100agg t100size t100inf t101und t101arr t101ty t101agg t101size t101inf t112und t112ptr t112ty t112agg t112size t112inf t131und t131kind t131ty t131agg t131size t131inf
end Go.Eng
open Go Go.Proofs
namespace Go.Eng
set_option linter.unusedSimpArgs false
set_option linter.unusedVariables false
set_option maxRecDepth 100000
set_option maxHeartbeats 8000000
theorem take_gtE {α : Type} [Inhabited α] {l : List α} {i : Nat} (h : i < l.length) : l.take (i + 1) = l.take i ++ [gt l i] := by
  rw [List.take_succ_eq_append_getElem h]; simp [gt, List.getD, h]
theorem El.sizes_append : ∀ (a b : List El), El.sizes (a ++ b) = El.sizes a + El.sizes b
  | [], b => by simp [El.sizes]
  | t :: l, b => by simp only [List.cons_append, El.sizes, El.sizes_append l b]; omega
theorem El.sizes_take {l : List El} {i : Nat} (h : i < l.length) : El.sizes (l.take (i + 1)) = El.sizes (l.take i) + (gt l i).size := by
  rw [take_gtE h, El.sizes_append]; simp [El.sizes]
theorem El.sizes_le (l : List El) (i : Nat) : El.sizes (l.take i) ≤ El.sizes l := by
  conv => rhs; rw [← List.take_append_drop i l, El.sizes_append]
  omega
mutual
def El.dep : El → Nat
  | .mk _ _ k _ => El.deps k + 1
def El.deps : List El → Nat
  | [] => 0
  | t :: l => max t.dep (El.deps l)
end
theorem El.dep_eq (t : El) : t.dep = El.deps t.kids + 1 := by cases t with | mk => rw [El.dep]; rfl
mutual
theorem El.dep_le : ∀ t : El, t.dep ≤ t.size
  | .mk n a k x => by rw [El.dep, El.size]; have := El.deps_le k; omega
theorem El.deps_le : ∀ l : List El, El.deps l ≤ El.sizes l
  | [] => by simp [El.deps]
  | t :: l => by rw [El.deps, El.sizes]; have := El.dep_le t; have := El.deps_le l; omega
end
theorem El.deps_append : ∀ (a b : List El), El.deps (a ++ b) = max (El.deps a) (El.deps b)
  | [], b => by simp [El.deps]
  | t :: l, b => by simp only [List.cons_append, El.deps, El.deps_append l b]; omega
theorem El.deps_take {l : List El} {i : Nat} (h : i < l.length) : El.deps (l.take (i + 1)) = max (El.deps (l.take i)) (gt l i).dep := by
  rw [take_gtE h, El.deps_append]; simp [El.deps]
theorem gt_memE {α : Type} [Inhabited α] {l : List α} {i : Nat} (h : i < l.length) : gt l i ∈ l := by
  rw [gt, List.getD_eq_getElem?_getD, List.getElem?_eq_getElem h]; exact List.getElem_mem h
theorem count_ok (e : El) (hs : e.size ≤ 1000000000) : AFn env 18 [e.a] [] (aI e.size) [] := by
  generalize hn : e.size = n
  induction n using Nat.strongRecOn generalizing e with
  | _ n ih0 =>
    have ih : ∀ (k : El), k.size < e.size → AFn env 18 [k.a] [] (aI k.size) [] := fun k h => ih0 k.size (by omega) k (by omega) rfl
    have he := e.size_eq
    refine afn_body Tryd.func18 rfl (by decide) ?_
    simp only [Tryd.ntmps18, Tryd.results18, List.length_cons, List.length_nil, List.cons_append, List.nil_append, Nat.reduceAdd, Nat.reduceSub, List.replicate]
    repeat' first
    | with_reducible refine awp_seq ?_
    | ((with_reducible refine awp_region ?_); refine zS ?_)
    | ((with_reducible refine Gd_nd ?_ ?_) <;> intro hb hb2 <;> first | contradiction | (exfalso; omega) | (refine zH hb2 ?_; try clear hb2))
    | ((with_reducible refine Gd_nb ?_ ?_) <;> intro hb <;> first | contradiction | refine zH hb ?_)
    | ((with_reducible refine Gd_d ?_ ?_) <;> intro hb hb2 <;> first | contradiction | (exfalso; omega) | (refine zH hb2 ?_; try clear hb2))
    | ((with_reducible refine Gd_b ?_ ?_) <;> intro hb <;> first | contradiction | refine zH hb ?_)
    | ((with_reducible refine Res_id ?_); refine zS ?_)
    | ((with_reducible refine awp_drawnC ?_ ?_); rfl; refine zS ?_)
    | ((with_reducible refine awp_drawnA ?_ ?_); rfl; refine zS ?_)
    | ((with_reducible refine CGd_nd ?_ ?_) <;> intro hb hb2 <;> first | contradiction | (exfalso; omega) | (refine zH hb2 ?_; try clear hb2))
    | ((with_reducible refine CGd_nb ?_ ?_) <;> intro hb <;> first | contradiction | refine zH hb ?_)
    | ((with_reducible refine CGd_d ?_ ?_) <;> intro hb hb2 <;> first | contradiction | (exfalso; omega) | (refine zH hb2 ?_; try clear hb2))
    | ((with_reducible refine CGd_b ?_ ?_) <;> intro hb <;> first | contradiction | refine zH hb ?_)
    | ((with_reducible refine CRes_id ?_); refine zS ?_)
    | ((with_reducible refine DStep_id ?_); refine zdP ?_; refine ⟨_, by first | exact ih (gt e.kids i) (El.size_lt (gt_memE (by omega))) | fail, fun _ => rfl, fun _ => rfl, rfl, (fun h => by first | cases h | fail), ?_⟩; try refine zS ?_)
    | ((with_reducible refine DStep_id ?_); refine zdW ?_; refine ⟨_, by first | exact ih (gt e.kids i) (El.size_lt (gt_memE (by omega))) | fail, fun _ => rfl, fun _ => rfl, rfl, ?_⟩; try refine zS ?_)
    | ((with_reducible refine AWP_c ?_); refine zcdT ?_)
    | ((with_reducible refine AWP_c ?_); refine zcdF ?_)
    | ((with_reducible refine AWP_c ?_); refine zcdN ?_ ?_ <;> intro hb hb2 <;> first | contradiction | (exfalso; omega) | ((try refine zH hb2 ?_); try clear hb2))
    | ((with_reducible refine AWP_c ?_); refine zcdD ?_ ?_ <;> intro hb hb2 <;> first | contradiction | (exfalso; omega) | ((try refine zH hb2 ?_); try clear hb2))
    | ((with_reducible refine AWP_c ?_); refine zcdM ?_ ?_ <;> intro hb <;> first | contradiction | (try refine zH hb ?_))
    | ((with_reducible refine AWP_c ?_); refine zcdB ?_ ?_ <;> intro hb <;> first | contradiction | (try refine zH hb ?_))
    | ((with_reducible refine awp_ret ?_); refine fin_r ?_)
    | ((with_reducible refine awp_ret ?_); refine fin_q ?_ ?_)
    | with_reducible refine fin_qn ?_ ?_
    | ((with_reducible refine awp_skip ?_); refine zS ?_)
    | with_reducible refine awp_block ?_
    | ((with_reducible refine awp_exit ?_); refine zS ?_)
    | ((with_reducible refine CallK_id ?_); refine zcF ?_; refine ⟨_, by first | exact ih (gt e.kids i) (El.size_lt (gt_memE (by omega))) | fail, fun _ => rfl, fun _ => rfl, rfl, ?_⟩; try refine zS ?_)
    | ((with_reducible refine awp_label ?_); try refine zS ?_)
    | ((with_reducible refine awp_goto ?_); try refine zS ?_)
    | ((with_reducible refine awp_scope0 ?_); try refine zS ?_)
    | exact True.intro
    | fail
    refine awp_loopT (fun i : Nat => i ≤ e.kids.length) (fun i => e.kids.length - i) (fun i => [(9, aI i), (3, aI (1 + (El.sizes (e.kids.take i) : Int)))]) (fun i => [some (.box e.bs)]) 0 (by omega) (wk_le (by simp only [go_sem, Bool.not_not, List.mem_singleton, forall_eq, ↓reduceIte, if_pos, rowsAt_map, wrap64, wrapu8, List.getElem?_cons_zero, List.getElem?_cons_succ, Int.reduceToNat, Nat.reduceAdd, Nat.reduceBEq, Bool.or_false, Bool.false_or, Bool.true_or, Nat.reduceSub, Nat.reduceMul, Int.reduceAdd, Int.reduceEq, Int.reduceLT, Int.reduceLE, Int.reduceNeg, Nat.reduceLT, Nat.reduceLeDiff, Nat.reduceEqDiff]; simp [El.sizes]) (by simp only [go_sem, Bool.not_not, List.mem_singleton, forall_eq, ↓reduceIte, if_pos, rowsAt_map, wrap64, wrapu8, List.getElem?_cons_zero, List.getElem?_cons_succ, Int.reduceToNat, Nat.reduceAdd, Nat.reduceBEq, Bool.or_false, Bool.false_or, Bool.true_or, Nat.reduceSub, Nat.reduceMul, Int.reduceAdd, Int.reduceEq, Int.reduceLT, Int.reduceLE, Int.reduceNeg, Nat.reduceLT, Nat.reduceLeDiff, Nat.reduceEqDiff])) ?_
    rintro i h1
    have hq2 : i < e.kids.length → El.sizes (e.kids.take i) + (gt e.kids i).size ≤ El.sizes e.kids := fun h => by rw [← El.sizes_take h]; exact El.sizes_le _ _
    have hq := El.sizes_le e.kids i
    have hkl := El.len_le e.kids
    refine zT ?_
    repeat' first
    | with_reducible refine awp_seq ?_
    | ((with_reducible refine awp_region ?_); refine zS ?_)
    | ((with_reducible refine Gd_nd ?_ ?_) <;> intro hb hb2 <;> first | contradiction | (exfalso; omega) | (refine zH hb2 ?_; try clear hb2))
    | ((with_reducible refine Gd_nb ?_ ?_) <;> intro hb <;> first | contradiction | refine zH hb ?_)
    | ((with_reducible refine Gd_d ?_ ?_) <;> intro hb hb2 <;> first | contradiction | (exfalso; omega) | (refine zH hb2 ?_; try clear hb2))
    | ((with_reducible refine Gd_b ?_ ?_) <;> intro hb <;> first | contradiction | refine zH hb ?_)
    | ((with_reducible refine Res_id ?_); refine zS ?_)
    | ((with_reducible refine awp_drawnC ?_ ?_); rfl; refine zS ?_)
    | ((with_reducible refine awp_drawnA ?_ ?_); rfl; refine zS ?_)
    | ((with_reducible refine CGd_nd ?_ ?_) <;> intro hb hb2 <;> first | contradiction | (exfalso; omega) | (refine zH hb2 ?_; try clear hb2))
    | ((with_reducible refine CGd_nb ?_ ?_) <;> intro hb <;> first | contradiction | refine zH hb ?_)
    | ((with_reducible refine CGd_d ?_ ?_) <;> intro hb hb2 <;> first | contradiction | (exfalso; omega) | (refine zH hb2 ?_; try clear hb2))
    | ((with_reducible refine CGd_b ?_ ?_) <;> intro hb <;> first | contradiction | refine zH hb ?_)
    | ((with_reducible refine CRes_id ?_); refine zS ?_)
    | ((with_reducible refine DStep_id ?_); refine zdP ?_; refine ⟨_, by first | exact ih (gt e.kids i) (El.size_lt (gt_memE (by omega))) | fail, fun _ => rfl, fun _ => rfl, rfl, (fun h => by first | cases h | fail), ?_⟩; try refine zS ?_)
    | ((with_reducible refine DStep_id ?_); refine zdW ?_; refine ⟨_, by first | exact ih (gt e.kids i) (El.size_lt (gt_memE (by omega))) | fail, fun _ => rfl, fun _ => rfl, rfl, ?_⟩; try refine zS ?_)
    | ((with_reducible refine AWP_c ?_); refine zcdT ?_)
    | ((with_reducible refine AWP_c ?_); refine zcdF ?_)
    | ((with_reducible refine AWP_c ?_); refine zcdN ?_ ?_ <;> intro hb hb2 <;> first | contradiction | (exfalso; omega) | ((try refine zH hb2 ?_); try clear hb2))
    | ((with_reducible refine AWP_c ?_); refine zcdD ?_ ?_ <;> intro hb hb2 <;> first | contradiction | (exfalso; omega) | ((try refine zH hb2 ?_); try clear hb2))
    | ((with_reducible refine AWP_c ?_); refine zcdM ?_ ?_ <;> intro hb <;> first | contradiction | (try refine zH hb ?_))
    | ((with_reducible refine AWP_c ?_); refine zcdB ?_ ?_ <;> intro hb <;> first | contradiction | (try refine zH hb ?_))
    | ((with_reducible refine awp_ret ?_); refine fin_r ?_)
    | ((with_reducible refine awp_ret ?_); refine fin_q ?_ ?_)
    | with_reducible refine fin_qn ?_ ?_
    | ((with_reducible refine awp_skip ?_); refine zS ?_)
    | with_reducible refine awp_block ?_
    | ((with_reducible refine awp_exit ?_); refine zS ?_)
    | ((with_reducible refine CallK_id ?_); refine zcF ?_; refine ⟨_, by first | exact ih (gt e.kids i) (El.size_lt (gt_memE (by omega))) | fail, fun _ => rfl, fun _ => rfl, rfl, ?_⟩; try refine zS ?_)
    | ((with_reducible refine awp_label ?_); try refine zS ?_)
    | ((with_reducible refine awp_goto ?_); try refine zS ?_)
    | ((with_reducible refine awp_scope0 ?_); try refine zS ?_)
    | exact True.intro
    | fail
    · have hi : i < e.kids.length := by omega
      have h2 := El.sizes_take hi
      have h3 := El.sizes_le e.kids (i + 1)
      exact ⟨i + 1, by omega, by omega, wk_cl 1 (by decide) (by simp) (by simp only [go_sem, Bool.not_not, List.mem_singleton, forall_eq, ↓reduceIte, if_pos, rowsAt_map, wrap64, wrapu8, List.getElem?_cons_zero, List.getElem?_cons_succ, Int.reduceToNat, Nat.reduceAdd, Nat.reduceBEq, Bool.or_false, Bool.false_or, Bool.true_or, Nat.reduceSub, Nat.reduceMul, Int.reduceAdd, Int.reduceEq, Int.reduceLT, Int.reduceLE, Int.reduceNeg, Nat.reduceLT, Nat.reduceLeDiff, Nat.reduceEqDiff]; simp; first | omega | (constructor <;> omega)) (by simp only [go_sem, Bool.not_not, List.mem_singleton, forall_eq, ↓reduceIte, if_pos, rowsAt_map, wrap64, wrapu8, List.getElem?_cons_zero, List.getElem?_cons_succ, Int.reduceToNat, Nat.reduceAdd, Nat.reduceBEq, Bool.or_false, Bool.false_or, Bool.true_or, Nat.reduceSub, Nat.reduceMul, Int.reduceAdd, Int.reduceEq, Int.reduceLT, Int.reduceLE, Int.reduceNeg, Nat.reduceLT, Nat.reduceLeDiff, Nat.reduceEqDiff])⟩
    · have hi : i = e.kids.length := by omega
      subst hi
      rw [List.take_length]
      first | (congr 4; omega) | trace_state
theorem depth_ok (e : El) (hs : e.size ≤ 1000000000) : AFn env 16 [e.a] [] (aI e.dep) [] := by
  generalize hn : e.size = n
  induction n using Nat.strongRecOn generalizing e with
  | _ n ih0 =>
    have ih : ∀ (k : El), k.size < e.size → AFn env 16 [k.a] [] (aI k.dep) [] := fun k h => ih0 k.size (by omega) k (by omega) rfl
    have he := e.size_eq
    refine afn_body Tryd.func16 rfl (by decide) ?_
    simp only [Tryd.ntmps16, Tryd.results16, List.length_cons, List.length_nil, List.cons_append, List.nil_append, Nat.reduceAdd, Nat.reduceSub, List.replicate]
    repeat' first
    | with_reducible refine awp_seq ?_
    | ((with_reducible refine awp_region ?_); refine zS ?_)
    | ((with_reducible refine Gd_nd ?_ ?_) <;> intro hb hb2 <;> first | contradiction | (exfalso; omega) | (refine zH hb2 ?_; try clear hb2))
    | ((with_reducible refine Gd_nb ?_ ?_) <;> intro hb <;> first | contradiction | refine zH hb ?_)
    | ((with_reducible refine Gd_d ?_ ?_) <;> intro hb hb2 <;> first | contradiction | (exfalso; omega) | (refine zH hb2 ?_; try clear hb2))
    | ((with_reducible refine Gd_b ?_ ?_) <;> intro hb <;> first | contradiction | refine zH hb ?_)
    | ((with_reducible refine Res_id ?_); refine zS ?_)
    | ((with_reducible refine awp_drawnC ?_ ?_); rfl; refine zS ?_)
    | ((with_reducible refine awp_drawnA ?_ ?_); rfl; refine zS ?_)
    | ((with_reducible refine CGd_nd ?_ ?_) <;> intro hb hb2 <;> first | contradiction | (exfalso; omega) | (refine zH hb2 ?_; try clear hb2))
    | ((with_reducible refine CGd_nb ?_ ?_) <;> intro hb <;> first | contradiction | refine zH hb ?_)
    | ((with_reducible refine CGd_d ?_ ?_) <;> intro hb hb2 <;> first | contradiction | (exfalso; omega) | (refine zH hb2 ?_; try clear hb2))
    | ((with_reducible refine CGd_b ?_ ?_) <;> intro hb <;> first | contradiction | refine zH hb ?_)
    | ((with_reducible refine CRes_id ?_); refine zS ?_)
    | ((with_reducible refine DStep_id ?_); refine zdP ?_; refine ⟨_, by first | exact ih (gt e.kids i) (El.size_lt (gt_memE (by omega))) | fail, fun _ => rfl, fun _ => rfl, rfl, (fun h => by first | cases h | fail), ?_⟩; try refine zS ?_)
    | ((with_reducible refine DStep_id ?_); refine zdW ?_; refine ⟨_, by first | exact ih (gt e.kids i) (El.size_lt (gt_memE (by omega))) | fail, fun _ => rfl, fun _ => rfl, rfl, ?_⟩; try refine zS ?_)
    | ((with_reducible refine AWP_c ?_); refine zcdT ?_)
    | ((with_reducible refine AWP_c ?_); refine zcdF ?_)
    | ((with_reducible refine AWP_c ?_); refine zcdN ?_ ?_ <;> intro hb hb2 <;> first | contradiction | (exfalso; omega) | ((try refine zH hb2 ?_); try clear hb2))
    | ((with_reducible refine AWP_c ?_); refine zcdD ?_ ?_ <;> intro hb hb2 <;> first | contradiction | (exfalso; omega) | ((try refine zH hb2 ?_); try clear hb2))
    | ((with_reducible refine AWP_c ?_); refine zcdM ?_ ?_ <;> intro hb <;> first | contradiction | (try refine zH hb ?_))
    | ((with_reducible refine AWP_c ?_); refine zcdB ?_ ?_ <;> intro hb <;> first | contradiction | (try refine zH hb ?_))
    | ((with_reducible refine awp_ret ?_); refine fin_r ?_)
    | ((with_reducible refine awp_ret ?_); refine fin_q ?_ ?_)
    | with_reducible refine fin_qn ?_ ?_
    | ((with_reducible refine awp_skip ?_); refine zS ?_)
    | with_reducible refine awp_block ?_
    | ((with_reducible refine awp_exit ?_); refine zS ?_)
    | ((with_reducible refine CallK_id ?_); refine zcF ?_; refine ⟨_, by first | exact ih (gt e.kids i) (El.size_lt (gt_memE (by omega))) | fail, fun _ => rfl, fun _ => rfl, rfl, ?_⟩; try refine zS ?_)
    | ((with_reducible refine awp_label ?_); try refine zS ?_)
    | ((with_reducible refine awp_goto ?_); try refine zS ?_)
    | ((with_reducible refine awp_scope0 ?_); try refine zS ?_)
    | exact True.intro
    | fail
    refine awp_loopT (fun i : Nat => i ≤ e.kids.length) (fun i => e.kids.length - i) (fun i => [(9, aI i), (3, aI (El.deps (e.kids.take i)))]) (fun i => [some (.box e.bs)]) 0 (by omega) (wk_le (by simp only [go_sem, Bool.not_not, List.mem_singleton, forall_eq, ↓reduceIte, if_pos, rowsAt_map, wrap64, wrapu8, List.getElem?_cons_zero, List.getElem?_cons_succ, Int.reduceToNat, Nat.reduceAdd, Nat.reduceBEq, Bool.or_false, Bool.false_or, Bool.true_or, Nat.reduceSub, Nat.reduceMul, Int.reduceAdd, Int.reduceEq, Int.reduceLT, Int.reduceLE, Int.reduceNeg, Nat.reduceLT, Nat.reduceLeDiff, Nat.reduceEqDiff]; simp [El.deps]) (by simp only [go_sem, Bool.not_not, List.mem_singleton, forall_eq, ↓reduceIte, if_pos, rowsAt_map, wrap64, wrapu8, List.getElem?_cons_zero, List.getElem?_cons_succ, Int.reduceToNat, Nat.reduceAdd, Nat.reduceBEq, Bool.or_false, Bool.false_or, Bool.true_or, Nat.reduceSub, Nat.reduceMul, Int.reduceAdd, Int.reduceEq, Int.reduceLT, Int.reduceLE, Int.reduceNeg, Nat.reduceLT, Nat.reduceLeDiff, Nat.reduceEqDiff])) ?_
    rintro i h1
    have hq := El.deps_le (e.kids.take i)
    have hq3 := El.sizes_le e.kids i
    have hkl := El.len_le e.kids
    refine zT ?_
    repeat' first
    | with_reducible refine awp_seq ?_
    | ((with_reducible refine awp_region ?_); refine zS ?_)
    | ((with_reducible refine Gd_nd ?_ ?_) <;> intro hb hb2 <;> first | contradiction | (exfalso; omega) | (refine zH hb2 ?_; try clear hb2))
    | ((with_reducible refine Gd_nb ?_ ?_) <;> intro hb <;> first | contradiction | refine zH hb ?_)
    | ((with_reducible refine Gd_d ?_ ?_) <;> intro hb hb2 <;> first | contradiction | (exfalso; omega) | (refine zH hb2 ?_; try clear hb2))
    | ((with_reducible refine Gd_b ?_ ?_) <;> intro hb <;> first | contradiction | refine zH hb ?_)
    | ((with_reducible refine Res_id ?_); refine zS ?_)
    | ((with_reducible refine awp_drawnC ?_ ?_); rfl; refine zS ?_)
    | ((with_reducible refine awp_drawnA ?_ ?_); rfl; refine zS ?_)
    | ((with_reducible refine CGd_nd ?_ ?_) <;> intro hb hb2 <;> first | contradiction | (exfalso; omega) | (refine zH hb2 ?_; try clear hb2))
    | ((with_reducible refine CGd_nb ?_ ?_) <;> intro hb <;> first | contradiction | refine zH hb ?_)
    | ((with_reducible refine CGd_d ?_ ?_) <;> intro hb hb2 <;> first | contradiction | (exfalso; omega) | (refine zH hb2 ?_; try clear hb2))
    | ((with_reducible refine CGd_b ?_ ?_) <;> intro hb <;> first | contradiction | refine zH hb ?_)
    | ((with_reducible refine CRes_id ?_); refine zS ?_)
    | ((with_reducible refine DStep_id ?_); refine zdP ?_; refine ⟨_, by first | exact ih (gt e.kids i) (El.size_lt (gt_memE (by omega))) | fail, fun _ => rfl, fun _ => rfl, rfl, (fun h => by first | cases h | fail), ?_⟩; try refine zS ?_)
    | ((with_reducible refine DStep_id ?_); refine zdW ?_; refine ⟨_, by first | exact ih (gt e.kids i) (El.size_lt (gt_memE (by omega))) | fail, fun _ => rfl, fun _ => rfl, rfl, ?_⟩; try refine zS ?_)
    | ((with_reducible refine AWP_c ?_); refine zcdT ?_)
    | ((with_reducible refine AWP_c ?_); refine zcdF ?_)
    | ((with_reducible refine AWP_c ?_); refine zcdN ?_ ?_ <;> intro hb hb2 <;> first | contradiction | (exfalso; omega) | ((try refine zH hb2 ?_); try clear hb2))
    | ((with_reducible refine AWP_c ?_); refine zcdD ?_ ?_ <;> intro hb hb2 <;> first | contradiction | (exfalso; omega) | ((try refine zH hb2 ?_); try clear hb2))
    | ((with_reducible refine AWP_c ?_); refine zcdM ?_ ?_ <;> intro hb <;> first | contradiction | (try refine zH hb ?_))
    | ((with_reducible refine AWP_c ?_); refine zcdB ?_ ?_ <;> intro hb <;> first | contradiction | (try refine zH hb ?_))
    | ((with_reducible refine awp_ret ?_); refine fin_r ?_)
    | ((with_reducible refine awp_ret ?_); refine fin_q ?_ ?_)
    | with_reducible refine fin_qn ?_ ?_
    | ((with_reducible refine awp_skip ?_); refine zS ?_)
    | with_reducible refine awp_block ?_
    | ((with_reducible refine awp_exit ?_); refine zS ?_)
    | ((with_reducible refine CallK_id ?_); refine zcF ?_; refine ⟨_, by first | exact ih (gt e.kids i) (El.size_lt (gt_memE (by omega))) | fail, fun _ => rfl, fun _ => rfl, rfl, ?_⟩; try refine zS ?_)
    | ((with_reducible refine awp_label ?_); try refine zS ?_)
    | ((with_reducible refine awp_goto ?_); try refine zS ?_)
    | ((with_reducible refine awp_scope0 ?_); try refine zS ?_)
    | exact True.intro
    | fail
    · have hi : i < e.kids.length := by omega
      have h2 := El.deps_take hi
      exact ⟨i + 1, by omega, by omega, wk_cl 1 (by decide) (by simp) (by simp only [go_sem, Bool.not_not, List.mem_singleton, forall_eq, ↓reduceIte, if_pos, rowsAt_map, wrap64, wrapu8, List.getElem?_cons_zero, List.getElem?_cons_succ, Int.reduceToNat, Nat.reduceAdd, Nat.reduceBEq, Bool.or_false, Bool.false_or, Bool.true_or, Nat.reduceSub, Nat.reduceMul, Int.reduceAdd, Int.reduceEq, Int.reduceLT, Int.reduceLE, Int.reduceNeg, Nat.reduceLT, Nat.reduceLeDiff, Nat.reduceEqDiff]; simp; first | omega | (constructor <;> omega)) (by simp only [go_sem, Bool.not_not, List.mem_singleton, forall_eq, ↓reduceIte, if_pos, rowsAt_map, wrap64, wrapu8, List.getElem?_cons_zero, List.getElem?_cons_succ, Int.reduceToNat, Nat.reduceAdd, Nat.reduceBEq, Bool.or_false, Bool.false_or, Bool.true_or, Nat.reduceSub, Nat.reduceMul, Int.reduceAdd, Int.reduceEq, Int.reduceLT, Int.reduceLE, Int.reduceNeg, Nat.reduceLT, Nat.reduceLeDiff, Nat.reduceEqDiff])⟩
    · have hi : i = e.kids.length := by omega
      subst hi
      have he := e.dep_eq
      rw [List.take_length]
      first | (congr 4; omega) | trace_state
theorem rcount_ok (e : El) (hs : e.size ≤ 1000000000) : AFn env 19 [e.a] [] (aI e.size) [] := by
  generalize hn : e.size = n
  induction n using Nat.strongRecOn generalizing e with
  | _ n ih0 =>
    have ih : ∀ (k : El), k.size < e.size → AFn env 19 [k.a] [] (aI k.size) [] := fun k h => ih0 k.size (by omega) k (by omega) rfl
    have he := e.size_eq
    refine afn_body Tryd.func19 rfl (by decide) ?_
    simp only [Tryd.ntmps19, Tryd.results19, List.length_cons, List.length_nil, List.cons_append, List.nil_append, Nat.reduceAdd, Nat.reduceSub, List.replicate]
    repeat' first
    | with_reducible refine awp_seq ?_
    | ((with_reducible refine awp_region ?_); refine zS ?_)
    | ((with_reducible refine Gd_nd ?_ ?_) <;> intro hb hb2 <;> first | contradiction | (exfalso; omega) | (refine zH hb2 ?_; try clear hb2))
    | ((with_reducible refine Gd_nb ?_ ?_) <;> intro hb <;> first | contradiction | refine zH hb ?_)
    | ((with_reducible refine Gd_d ?_ ?_) <;> intro hb hb2 <;> first | contradiction | (exfalso; omega) | (refine zH hb2 ?_; try clear hb2))
    | ((with_reducible refine Gd_b ?_ ?_) <;> intro hb <;> first | contradiction | refine zH hb ?_)
    | ((with_reducible refine Res_id ?_); refine zS ?_)
    | ((with_reducible refine awp_drawnC ?_ ?_); rfl; refine zS ?_)
    | ((with_reducible refine awp_drawnA ?_ ?_); rfl; refine zS ?_)
    | ((with_reducible refine CGd_nd ?_ ?_) <;> intro hb hb2 <;> first | contradiction | (exfalso; omega) | (refine zH hb2 ?_; try clear hb2))
    | ((with_reducible refine CGd_nb ?_ ?_) <;> intro hb <;> first | contradiction | refine zH hb ?_)
    | ((with_reducible refine CGd_d ?_ ?_) <;> intro hb hb2 <;> first | contradiction | (exfalso; omega) | (refine zH hb2 ?_; try clear hb2))
    | ((with_reducible refine CGd_b ?_ ?_) <;> intro hb <;> first | contradiction | refine zH hb ?_)
    | ((with_reducible refine CRes_id ?_); refine zS ?_)
    | ((with_reducible refine DStep_id ?_); refine zdP ?_; refine ⟨_, by first | exact ih (gt e.kids i) (El.size_lt (gt_memE (by omega))) | fail, fun _ => rfl, fun _ => rfl, rfl, (fun h => by first | cases h | fail), ?_⟩; try refine zS ?_)
    | ((with_reducible refine DStep_id ?_); refine zdW ?_; refine ⟨_, by first | exact ih (gt e.kids i) (El.size_lt (gt_memE (by omega))) | fail, fun _ => rfl, fun _ => rfl, rfl, ?_⟩; try refine zS ?_)
    | ((with_reducible refine AWP_c ?_); refine zcdT ?_)
    | ((with_reducible refine AWP_c ?_); refine zcdF ?_)
    | ((with_reducible refine AWP_c ?_); refine zcdN ?_ ?_ <;> intro hb hb2 <;> first | contradiction | (exfalso; omega) | ((try refine zH hb2 ?_); try clear hb2))
    | ((with_reducible refine AWP_c ?_); refine zcdD ?_ ?_ <;> intro hb hb2 <;> first | contradiction | (exfalso; omega) | ((try refine zH hb2 ?_); try clear hb2))
    | ((with_reducible refine AWP_c ?_); refine zcdM ?_ ?_ <;> intro hb <;> first | contradiction | (try refine zH hb ?_))
    | ((with_reducible refine AWP_c ?_); refine zcdB ?_ ?_ <;> intro hb <;> first | contradiction | (try refine zH hb ?_))
    | ((with_reducible refine awp_ret ?_); refine fin_r ?_)
    | ((with_reducible refine awp_ret ?_); refine fin_q ?_ ?_)
    | with_reducible refine fin_qn ?_ ?_
    | ((with_reducible refine awp_skip ?_); refine zS ?_)
    | with_reducible refine awp_block ?_
    | ((with_reducible refine awp_exit ?_); refine zS ?_)
    | ((with_reducible refine CallK_id ?_); refine zcF ?_; refine ⟨_, by first | exact ih (gt e.kids i) (El.size_lt (gt_memE (by omega))) | fail, fun _ => rfl, fun _ => rfl, rfl, ?_⟩; try refine zS ?_)
    | ((with_reducible refine awp_label ?_); try refine zS ?_)
    | ((with_reducible refine awp_goto ?_); try refine zS ?_)
    | ((with_reducible refine awp_scope0 ?_); try refine zS ?_)
    | exact True.intro
    | fail
    refine awp_loopT (fun i : Nat => i ≤ e.kids.length) (fun i => e.kids.length - i) (fun i => [(9, aI i), (3, aI (1 + (El.sizes (e.kids.take i) : Int)))]) (fun i => [some (.box e.bs)]) 0 (by omega) (wk_le (by simp only [go_sem, Bool.not_not, List.mem_singleton, forall_eq, ↓reduceIte, if_pos, rowsAt_map, wrap64, wrapu8, List.getElem?_cons_zero, List.getElem?_cons_succ, Int.reduceToNat, Nat.reduceAdd, Nat.reduceBEq, Bool.or_false, Bool.false_or, Bool.true_or, Nat.reduceSub, Nat.reduceMul, Int.reduceAdd, Int.reduceEq, Int.reduceLT, Int.reduceLE, Int.reduceNeg, Nat.reduceLT, Nat.reduceLeDiff, Nat.reduceEqDiff]; simp [El.sizes]) (by simp only [go_sem, Bool.not_not, List.mem_singleton, forall_eq, ↓reduceIte, if_pos, rowsAt_map, wrap64, wrapu8, List.getElem?_cons_zero, List.getElem?_cons_succ, Int.reduceToNat, Nat.reduceAdd, Nat.reduceBEq, Bool.or_false, Bool.false_or, Bool.true_or, Nat.reduceSub, Nat.reduceMul, Int.reduceAdd, Int.reduceEq, Int.reduceLT, Int.reduceLE, Int.reduceNeg, Nat.reduceLT, Nat.reduceLeDiff, Nat.reduceEqDiff])) ?_
    rintro i h1
    have hq2 : i < e.kids.length → El.sizes (e.kids.take i) + (gt e.kids i).size ≤ El.sizes e.kids := fun h => by rw [← El.sizes_take h]; exact El.sizes_le _ _
    have hq := El.sizes_le e.kids i
    have hkl := El.len_le e.kids
    refine zT ?_
    repeat' first
    | with_reducible refine awp_seq ?_
    | ((with_reducible refine awp_region ?_); refine zS ?_)
    | ((with_reducible refine Gd_nd ?_ ?_) <;> intro hb hb2 <;> first | contradiction | (exfalso; omega) | (refine zH hb2 ?_; try clear hb2))
    | ((with_reducible refine Gd_nb ?_ ?_) <;> intro hb <;> first | contradiction | refine zH hb ?_)
    | ((with_reducible refine Gd_d ?_ ?_) <;> intro hb hb2 <;> first | contradiction | (exfalso; omega) | (refine zH hb2 ?_; try clear hb2))
    | ((with_reducible refine Gd_b ?_ ?_) <;> intro hb <;> first | contradiction | refine zH hb ?_)
    | ((with_reducible refine Res_id ?_); refine zS ?_)
    | ((with_reducible refine awp_drawnC ?_ ?_); rfl; refine zS ?_)
    | ((with_reducible refine awp_drawnA ?_ ?_); rfl; refine zS ?_)
    | ((with_reducible refine CGd_nd ?_ ?_) <;> intro hb hb2 <;> first | contradiction | (exfalso; omega) | (refine zH hb2 ?_; try clear hb2))
    | ((with_reducible refine CGd_nb ?_ ?_) <;> intro hb <;> first | contradiction | refine zH hb ?_)
    | ((with_reducible refine CGd_d ?_ ?_) <;> intro hb hb2 <;> first | contradiction | (exfalso; omega) | (refine zH hb2 ?_; try clear hb2))
    | ((with_reducible refine CGd_b ?_ ?_) <;> intro hb <;> first | contradiction | refine zH hb ?_)
    | ((with_reducible refine CRes_id ?_); refine zS ?_)
    | ((with_reducible refine DStep_id ?_); refine zdP ?_; refine ⟨_, by first | exact ih (gt e.kids i) (El.size_lt (gt_memE (by omega))) | fail, fun _ => rfl, fun _ => rfl, rfl, (fun h => by first | cases h | fail), ?_⟩; try refine zS ?_)
    | ((with_reducible refine DStep_id ?_); refine zdW ?_; refine ⟨_, by first | exact ih (gt e.kids i) (El.size_lt (gt_memE (by omega))) | fail, fun _ => rfl, fun _ => rfl, rfl, ?_⟩; try refine zS ?_)
    | ((with_reducible refine AWP_c ?_); refine zcdT ?_)
    | ((with_reducible refine AWP_c ?_); refine zcdF ?_)
    | ((with_reducible refine AWP_c ?_); refine zcdN ?_ ?_ <;> intro hb hb2 <;> first | contradiction | (exfalso; omega) | ((try refine zH hb2 ?_); try clear hb2))
    | ((with_reducible refine AWP_c ?_); refine zcdD ?_ ?_ <;> intro hb hb2 <;> first | contradiction | (exfalso; omega) | ((try refine zH hb2 ?_); try clear hb2))
    | ((with_reducible refine AWP_c ?_); refine zcdM ?_ ?_ <;> intro hb <;> first | contradiction | (try refine zH hb ?_))
    | ((with_reducible refine AWP_c ?_); refine zcdB ?_ ?_ <;> intro hb <;> first | contradiction | (try refine zH hb ?_))
    | ((with_reducible refine awp_ret ?_); refine fin_r ?_)
    | ((with_reducible refine awp_ret ?_); refine fin_q ?_ ?_)
    | with_reducible refine fin_qn ?_ ?_
    | ((with_reducible refine awp_skip ?_); refine zS ?_)
    | with_reducible refine awp_block ?_
    | ((with_reducible refine awp_exit ?_); refine zS ?_)
    | ((with_reducible refine CallK_id ?_); refine zcF ?_; refine ⟨_, by first | exact ih (gt e.kids i) (El.size_lt (gt_memE (by omega))) | fail, fun _ => rfl, fun _ => rfl, rfl, ?_⟩; try refine zS ?_)
    | ((with_reducible refine awp_label ?_); try refine zS ?_)
    | ((with_reducible refine awp_goto ?_); try refine zS ?_)
    | ((with_reducible refine awp_scope0 ?_); try refine zS ?_)
    | exact True.intro
    | fail
    · have hi : i < e.kids.length := by omega
      have h2 := El.sizes_take hi
      have h3 := El.sizes_le e.kids (i + 1)
      exact ⟨i + 1, by omega, by omega, wk_cl 1 (by decide) (by simp) (by simp only [go_sem, Bool.not_not, List.mem_singleton, forall_eq, ↓reduceIte, if_pos, rowsAt_map, wrap64, wrapu8, List.getElem?_cons_zero, List.getElem?_cons_succ, Int.reduceToNat, Nat.reduceAdd, Nat.reduceBEq, Bool.or_false, Bool.false_or, Bool.true_or, Nat.reduceSub, Nat.reduceMul, Int.reduceAdd, Int.reduceEq, Int.reduceLT, Int.reduceLE, Int.reduceNeg, Nat.reduceLT, Nat.reduceLeDiff, Nat.reduceEqDiff]; simp; first | omega | (constructor <;> omega)) (by simp only [go_sem, Bool.not_not, List.mem_singleton, forall_eq, ↓reduceIte, if_pos, rowsAt_map, wrap64, wrapu8, List.getElem?_cons_zero, List.getElem?_cons_succ, Int.reduceToNat, Nat.reduceAdd, Nat.reduceBEq, Bool.or_false, Bool.false_or, Bool.true_or, Nat.reduceSub, Nat.reduceMul, Int.reduceAdd, Int.reduceEq, Int.reduceLT, Int.reduceLE, Int.reduceNeg, Nat.reduceLT, Nat.reduceLeDiff, Nat.reduceEqDiff])⟩
    · have hi : i = e.kids.length := by omega
      subst hi
      rw [List.take_length]
      first | (congr 4; omega) | trace_state
theorem rdepth_ok (e : El) (hs : e.size ≤ 1000000000) : AFn env 20 [e.a] [] (aI e.dep) [] := by
  generalize hn : e.size = n
  induction n using Nat.strongRecOn generalizing e with
  | _ n ih0 =>
    have ih : ∀ (k : El), k.size < e.size → AFn env 20 [k.a] [] (aI k.dep) [] := fun k h => ih0 k.size (by omega) k (by omega) rfl
    have he := e.size_eq
    refine afn_body Tryd.func20 rfl (by decide) ?_
    simp only [Tryd.ntmps20, Tryd.results20, List.length_cons, List.length_nil, List.cons_append, List.nil_append, Nat.reduceAdd, Nat.reduceSub, List.replicate]
    repeat' first
    | with_reducible refine awp_seq ?_
    | ((with_reducible refine awp_region ?_); refine zS ?_)
    | ((with_reducible refine Gd_nd ?_ ?_) <;> intro hb hb2 <;> first | contradiction | (exfalso; omega) | (refine zH hb2 ?_; try clear hb2))
    | ((with_reducible refine Gd_nb ?_ ?_) <;> intro hb <;> first | contradiction | refine zH hb ?_)
    | ((with_reducible refine Gd_d ?_ ?_) <;> intro hb hb2 <;> first | contradiction | (exfalso; omega) | (refine zH hb2 ?_; try clear hb2))
    | ((with_reducible refine Gd_b ?_ ?_) <;> intro hb <;> first | contradiction | refine zH hb ?_)
    | ((with_reducible refine Res_id ?_); refine zS ?_)
    | ((with_reducible refine awp_drawnC ?_ ?_); rfl; refine zS ?_)
    | ((with_reducible refine awp_drawnA ?_ ?_); rfl; refine zS ?_)
    | ((with_reducible refine CGd_nd ?_ ?_) <;> intro hb hb2 <;> first | contradiction | (exfalso; omega) | (refine zH hb2 ?_; try clear hb2))
    | ((with_reducible refine CGd_nb ?_ ?_) <;> intro hb <;> first | contradiction | refine zH hb ?_)
    | ((with_reducible refine CGd_d ?_ ?_) <;> intro hb hb2 <;> first | contradiction | (exfalso; omega) | (refine zH hb2 ?_; try clear hb2))
    | ((with_reducible refine CGd_b ?_ ?_) <;> intro hb <;> first | contradiction | refine zH hb ?_)
    | ((with_reducible refine CRes_id ?_); refine zS ?_)
    | ((with_reducible refine DStep_id ?_); refine zdP ?_; refine ⟨_, by first | exact ih (gt e.kids i) (El.size_lt (gt_memE (by omega))) | fail, fun _ => rfl, fun _ => rfl, rfl, (fun h => by first | cases h | fail), ?_⟩; try refine zS ?_)
    | ((with_reducible refine DStep_id ?_); refine zdW ?_; refine ⟨_, by first | exact ih (gt e.kids i) (El.size_lt (gt_memE (by omega))) | fail, fun _ => rfl, fun _ => rfl, rfl, ?_⟩; try refine zS ?_)
    | ((with_reducible refine AWP_c ?_); refine zcdT ?_)
    | ((with_reducible refine AWP_c ?_); refine zcdF ?_)
    | ((with_reducible refine AWP_c ?_); refine zcdN ?_ ?_ <;> intro hb hb2 <;> first | contradiction | (exfalso; omega) | ((try refine zH hb2 ?_); try clear hb2))
    | ((with_reducible refine AWP_c ?_); refine zcdD ?_ ?_ <;> intro hb hb2 <;> first | contradiction | (exfalso; omega) | ((try refine zH hb2 ?_); try clear hb2))
    | ((with_reducible refine AWP_c ?_); refine zcdM ?_ ?_ <;> intro hb <;> first | contradiction | (try refine zH hb ?_))
    | ((with_reducible refine AWP_c ?_); refine zcdB ?_ ?_ <;> intro hb <;> first | contradiction | (try refine zH hb ?_))
    | ((with_reducible refine awp_ret ?_); refine fin_r ?_)
    | ((with_reducible refine awp_ret ?_); refine fin_q ?_ ?_)
    | with_reducible refine fin_qn ?_ ?_
    | ((with_reducible refine awp_skip ?_); refine zS ?_)
    | with_reducible refine awp_block ?_
    | ((with_reducible refine awp_exit ?_); refine zS ?_)
    | ((with_reducible refine CallK_id ?_); refine zcF ?_; refine ⟨_, by first | exact ih (gt e.kids i) (El.size_lt (gt_memE (by omega))) | fail, fun _ => rfl, fun _ => rfl, rfl, ?_⟩; try refine zS ?_)
    | ((with_reducible refine awp_label ?_); try refine zS ?_)
    | ((with_reducible refine awp_goto ?_); try refine zS ?_)
    | ((with_reducible refine awp_scope0 ?_); try refine zS ?_)
    | exact True.intro
    | fail
    refine awp_loopT (fun i : Nat => i ≤ e.kids.length) (fun i => e.kids.length - i) (fun i => [(10, aI i), (3, aI (El.deps (e.kids.take i)))]) (fun i => [some (.box e.bs)]) 0 (by omega) (wk_le (by simp only [go_sem, Bool.not_not, List.mem_singleton, forall_eq, ↓reduceIte, if_pos, rowsAt_map, wrap64, wrapu8, List.getElem?_cons_zero, List.getElem?_cons_succ, Int.reduceToNat, Nat.reduceAdd, Nat.reduceBEq, Bool.or_false, Bool.false_or, Bool.true_or, Nat.reduceSub, Nat.reduceMul, Int.reduceAdd, Int.reduceEq, Int.reduceLT, Int.reduceLE, Int.reduceNeg, Nat.reduceLT, Nat.reduceLeDiff, Nat.reduceEqDiff]; simp [El.deps]) (by simp only [go_sem, Bool.not_not, List.mem_singleton, forall_eq, ↓reduceIte, if_pos, rowsAt_map, wrap64, wrapu8, List.getElem?_cons_zero, List.getElem?_cons_succ, Int.reduceToNat, Nat.reduceAdd, Nat.reduceBEq, Bool.or_false, Bool.false_or, Bool.true_or, Nat.reduceSub, Nat.reduceMul, Int.reduceAdd, Int.reduceEq, Int.reduceLT, Int.reduceLE, Int.reduceNeg, Nat.reduceLT, Nat.reduceLeDiff, Nat.reduceEqDiff])) ?_
    rintro i h1
    have hq := El.deps_le (e.kids.take i)
    have hq3 := El.sizes_le e.kids i
    have hkl := El.len_le e.kids
    refine zT ?_
    repeat' first
    | with_reducible refine awp_seq ?_
    | ((with_reducible refine awp_region ?_); refine zS ?_)
    | ((with_reducible refine Gd_nd ?_ ?_) <;> intro hb hb2 <;> first | contradiction | (exfalso; omega) | (refine zH hb2 ?_; try clear hb2))
    | ((with_reducible refine Gd_nb ?_ ?_) <;> intro hb <;> first | contradiction | refine zH hb ?_)
    | ((with_reducible refine Gd_d ?_ ?_) <;> intro hb hb2 <;> first | contradiction | (exfalso; omega) | (refine zH hb2 ?_; try clear hb2))
    | ((with_reducible refine Gd_b ?_ ?_) <;> intro hb <;> first | contradiction | refine zH hb ?_)
    | ((with_reducible refine Res_id ?_); refine zS ?_)
    | ((with_reducible refine awp_drawnC ?_ ?_); rfl; refine zS ?_)
    | ((with_reducible refine awp_drawnA ?_ ?_); rfl; refine zS ?_)
    | ((with_reducible refine CGd_nd ?_ ?_) <;> intro hb hb2 <;> first | contradiction | (exfalso; omega) | (refine zH hb2 ?_; try clear hb2))
    | ((with_reducible refine CGd_nb ?_ ?_) <;> intro hb <;> first | contradiction | refine zH hb ?_)
    | ((with_reducible refine CGd_d ?_ ?_) <;> intro hb hb2 <;> first | contradiction | (exfalso; omega) | (refine zH hb2 ?_; try clear hb2))
    | ((with_reducible refine CGd_b ?_ ?_) <;> intro hb <;> first | contradiction | refine zH hb ?_)
    | ((with_reducible refine CRes_id ?_); refine zS ?_)
    | ((with_reducible refine DStep_id ?_); refine zdP ?_; refine ⟨_, by first | exact ih (gt e.kids i) (El.size_lt (gt_memE (by omega))) | fail, fun _ => rfl, fun _ => rfl, rfl, (fun h => by first | cases h | fail), ?_⟩; try refine zS ?_)
    | ((with_reducible refine DStep_id ?_); refine zdW ?_; refine ⟨_, by first | exact ih (gt e.kids i) (El.size_lt (gt_memE (by omega))) | fail, fun _ => rfl, fun _ => rfl, rfl, ?_⟩; try refine zS ?_)
    | ((with_reducible refine AWP_c ?_); refine zcdT ?_)
    | ((with_reducible refine AWP_c ?_); refine zcdF ?_)
    | ((with_reducible refine AWP_c ?_); refine zcdN ?_ ?_ <;> intro hb hb2 <;> first | contradiction | (exfalso; omega) | ((try refine zH hb2 ?_); try clear hb2))
    | ((with_reducible refine AWP_c ?_); refine zcdD ?_ ?_ <;> intro hb hb2 <;> first | contradiction | (exfalso; omega) | ((try refine zH hb2 ?_); try clear hb2))
    | ((with_reducible refine AWP_c ?_); refine zcdM ?_ ?_ <;> intro hb <;> first | contradiction | (try refine zH hb ?_))
    | ((with_reducible refine AWP_c ?_); refine zcdB ?_ ?_ <;> intro hb <;> first | contradiction | (try refine zH hb ?_))
    | ((with_reducible refine awp_ret ?_); refine fin_r ?_)
    | ((with_reducible refine awp_ret ?_); refine fin_q ?_ ?_)
    | with_reducible refine fin_qn ?_ ?_
    | ((with_reducible refine awp_skip ?_); refine zS ?_)
    | with_reducible refine awp_block ?_
    | ((with_reducible refine awp_exit ?_); refine zS ?_)
    | ((with_reducible refine CallK_id ?_); refine zcF ?_; refine ⟨_, by first | exact ih (gt e.kids i) (El.size_lt (gt_memE (by omega))) | fail, fun _ => rfl, fun _ => rfl, rfl, ?_⟩; try refine zS ?_)
    | ((with_reducible refine awp_label ?_); try refine zS ?_)
    | ((with_reducible refine awp_goto ?_); try refine zS ?_)
    | ((with_reducible refine awp_scope0 ?_); try refine zS ?_)
    | exact True.intro
    | fail
    iterate 2
     · have hi : i < e.kids.length := by omega
       have h2 := El.deps_take hi
       exact ⟨i + 1, by omega, by omega, wk_cl 1 (by decide) (by simp) (by simp only [go_sem, Bool.not_not, List.mem_singleton, forall_eq, ↓reduceIte, if_pos, rowsAt_map, wrap64, wrapu8, List.getElem?_cons_zero, List.getElem?_cons_succ, Int.reduceToNat, Nat.reduceAdd, Nat.reduceBEq, Bool.or_false, Bool.false_or, Bool.true_or, Nat.reduceSub, Nat.reduceMul, Int.reduceAdd, Int.reduceEq, Int.reduceLT, Int.reduceLE, Int.reduceNeg, Nat.reduceLT, Nat.reduceLeDiff, Nat.reduceEqDiff]; simp; first | omega | (constructor <;> omega)) (by simp only [go_sem, Bool.not_not, List.mem_singleton, forall_eq, ↓reduceIte, if_pos, rowsAt_map, wrap64, wrapu8, List.getElem?_cons_zero, List.getElem?_cons_succ, Int.reduceToNat, Nat.reduceAdd, Nat.reduceBEq, Bool.or_false, Bool.false_or, Bool.true_or, Nat.reduceSub, Nat.reduceMul, Int.reduceAdd, Int.reduceEq, Int.reduceLT, Int.reduceLE, Int.reduceNeg, Nat.reduceLT, Nat.reduceLeDiff, Nat.reduceEqDiff])⟩
    · have hi : i = e.kids.length := by omega
      subst hi
      have he := e.dep_eq
      rw [List.take_length]
      first | (congr 4; omega) | trace_state
def getA : List At → Str → Str × Bool
  | [], _ => ([], false)
  | a :: l, n => if a.name = n then (a.val, true) else getA l n
theorem drop_gtE {α : Type} [Inhabited α] {l : List α} {i : Nat} (h : i < l.length) : l.drop i = gt l i :: l.drop (i + 1) := by
  rw [List.drop_eq_getElem_cons h, gt, List.getD_eq_getElem?_getD, List.getElem?_eq_getElem h]; rfl
theorem get_ok (e : El) (n : Str) (hl : e.ats.length ≤ 1000000000) : AFn env 17 [e.a, aS n] [] (.tup [aS (getA e.ats n).1, aB (getA e.ats n).2]) [] := by
  refine afn_body Tryd.func17 rfl (by decide) ?_
  simp only [Tryd.ntmps17, Tryd.results17, List.length_cons, List.length_nil, List.cons_append, List.nil_append, Nat.reduceAdd, Nat.reduceSub, List.replicate]
  repeat' first
  | with_reducible refine awp_seq ?_
  | ((with_reducible refine awp_region ?_); refine zS ?_)
  | ((with_reducible refine Gd_nd ?_ ?_) <;> intro hb hb2 <;> first | contradiction | (exfalso; omega) | (refine zH hb2 ?_; try clear hb2))
  | ((with_reducible refine Gd_nb ?_ ?_) <;> intro hb <;> first | contradiction | refine zH hb ?_)
  | ((with_reducible refine Gd_d ?_ ?_) <;> intro hb hb2 <;> first | contradiction | (exfalso; omega) | (refine zH hb2 ?_; try clear hb2))
  | ((with_reducible refine Gd_b ?_ ?_) <;> intro hb <;> first | contradiction | refine zH hb ?_)
  | ((with_reducible refine Res_id ?_); refine zS ?_)
  | ((with_reducible refine awp_drawnC ?_ ?_); rfl; refine zS ?_)
  | ((with_reducible refine awp_drawnA ?_ ?_); rfl; refine zS ?_)
  | ((with_reducible refine CGd_nd ?_ ?_) <;> intro hb hb2 <;> first | contradiction | (exfalso; omega) | (refine zH hb2 ?_; try clear hb2))
  | ((with_reducible refine CGd_nb ?_ ?_) <;> intro hb <;> first | contradiction | refine zH hb ?_)
  | ((with_reducible refine CGd_d ?_ ?_) <;> intro hb hb2 <;> first | contradiction | (exfalso; omega) | (refine zH hb2 ?_; try clear hb2))
  | ((with_reducible refine CGd_b ?_ ?_) <;> intro hb <;> first | contradiction | refine zH hb ?_)
  | ((with_reducible refine CRes_id ?_); refine zS ?_)
  | ((with_reducible refine DStep_id ?_); refine zdP ?_; refine ⟨_, by first | exact ih (gt e.kids i) (El.size_lt (gt_memE (by omega))) | fail, fun _ => rfl, fun _ => rfl, rfl, (fun h => by first | cases h | fail), ?_⟩; try refine zS ?_)
  | ((with_reducible refine DStep_id ?_); refine zdW ?_; refine ⟨_, by first | exact ih (gt e.kids i) (El.size_lt (gt_memE (by omega))) | fail, fun _ => rfl, fun _ => rfl, rfl, ?_⟩; try refine zS ?_)
  | ((with_reducible refine AWP_c ?_); refine zcdT ?_)
  | ((with_reducible refine AWP_c ?_); refine zcdF ?_)
  | ((with_reducible refine AWP_c ?_); refine zcdN ?_ ?_ <;> intro hb hb2 <;> first | contradiction | (exfalso; omega) | ((try refine zH hb2 ?_); try clear hb2))
  | ((with_reducible refine AWP_c ?_); refine zcdD ?_ ?_ <;> intro hb hb2 <;> first | contradiction | (exfalso; omega) | ((try refine zH hb2 ?_); try clear hb2))
  | ((with_reducible refine AWP_c ?_); refine zcdM ?_ ?_ <;> intro hb <;> first | contradiction | (try refine zH hb ?_))
  | ((with_reducible refine AWP_c ?_); refine zcdB ?_ ?_ <;> intro hb <;> first | contradiction | (try refine zH hb ?_))
  | ((with_reducible refine awp_ret ?_); refine fin_r ?_)
  | ((with_reducible refine awp_ret ?_); refine fin_q ?_ ?_)
  | with_reducible refine fin_qn ?_ ?_
  | ((with_reducible refine awp_skip ?_); refine zS ?_)
  | with_reducible refine awp_block ?_
  | ((with_reducible refine awp_exit ?_); refine zS ?_)
  | ((with_reducible refine CallK_id ?_); refine zcF ?_; refine ⟨_, by first | exact ih (gt e.kids i) (El.size_lt (gt_memE (by omega))) | fail, fun _ => rfl, fun _ => rfl, rfl, ?_⟩; try refine zS ?_)
  | ((with_reducible refine awp_label ?_); try refine zS ?_)
  | ((with_reducible refine awp_goto ?_); try refine zS ?_)
  | ((with_reducible refine awp_scope0 ?_); try refine zS ?_)
  | exact True.intro
  | fail
  refine awp_loopT (fun i : Nat => i ≤ e.ats.length ∧ getA (e.ats.drop i) n = getA e.ats n) (fun i => e.ats.length - i) (fun i => [(11, aI i)]) (fun i => [some (.box e.bs)]) 0 ⟨by omega, rfl⟩ (by exact zwl) ?_
  rintro i ⟨h1, h2⟩
  refine zT ?_
  repeat' first
  | with_reducible refine awp_seq ?_
  | ((with_reducible refine awp_region ?_); refine zS ?_)
  | ((with_reducible refine Gd_nd ?_ ?_) <;> intro hb hb2 <;> first | contradiction | (exfalso; omega) | (refine zH hb2 ?_; try clear hb2))
  | ((with_reducible refine Gd_nb ?_ ?_) <;> intro hb <;> first | contradiction | refine zH hb ?_)
  | ((with_reducible refine Gd_d ?_ ?_) <;> intro hb hb2 <;> first | contradiction | (exfalso; omega) | (refine zH hb2 ?_; try clear hb2))
  | ((with_reducible refine Gd_b ?_ ?_) <;> intro hb <;> first | contradiction | refine zH hb ?_)
  | ((with_reducible refine Res_id ?_); refine zS ?_)
  | ((with_reducible refine awp_drawnC ?_ ?_); rfl; refine zS ?_)
  | ((with_reducible refine awp_drawnA ?_ ?_); rfl; refine zS ?_)
  | ((with_reducible refine CGd_nd ?_ ?_) <;> intro hb hb2 <;> first | contradiction | (exfalso; omega) | (refine zH hb2 ?_; try clear hb2))
  | ((with_reducible refine CGd_nb ?_ ?_) <;> intro hb <;> first | contradiction | refine zH hb ?_)
  | ((with_reducible refine CGd_d ?_ ?_) <;> intro hb hb2 <;> first | contradiction | (exfalso; omega) | (refine zH hb2 ?_; try clear hb2))
  | ((with_reducible refine CGd_b ?_ ?_) <;> intro hb <;> first | contradiction | refine zH hb ?_)
  | ((with_reducible refine CRes_id ?_); refine zS ?_)
  | ((with_reducible refine DStep_id ?_); refine zdP ?_; refine ⟨_, by first | exact ih (gt e.kids i) (El.size_lt (gt_memE (by omega))) | fail, fun _ => rfl, fun _ => rfl, rfl, (fun h => by first | cases h | fail), ?_⟩; try refine zS ?_)
  | ((with_reducible refine DStep_id ?_); refine zdW ?_; refine ⟨_, by first | exact ih (gt e.kids i) (El.size_lt (gt_memE (by omega))) | fail, fun _ => rfl, fun _ => rfl, rfl, ?_⟩; try refine zS ?_)
  | ((with_reducible refine AWP_c ?_); refine zcdT ?_)
  | ((with_reducible refine AWP_c ?_); refine zcdF ?_)
  | ((with_reducible refine AWP_c ?_); refine zcdN ?_ ?_ <;> intro hb hb2 <;> first | contradiction | (exfalso; omega) | ((try refine zH hb2 ?_); try clear hb2))
  | ((with_reducible refine AWP_c ?_); refine zcdD ?_ ?_ <;> intro hb hb2 <;> first | contradiction | (exfalso; omega) | ((try refine zH hb2 ?_); try clear hb2))
  | ((with_reducible refine AWP_c ?_); refine zcdM ?_ ?_ <;> intro hb <;> first | contradiction | (try refine zH hb ?_))
  | ((with_reducible refine AWP_c ?_); refine zcdB ?_ ?_ <;> intro hb <;> first | contradiction | (try refine zH hb ?_))
  | ((with_reducible refine awp_ret ?_); refine fin_r ?_)
  | ((with_reducible refine awp_ret ?_); refine fin_q ?_ ?_)
  | with_reducible refine fin_qn ?_ ?_
  | ((with_reducible refine awp_skip ?_); refine zS ?_)
  | with_reducible refine awp_block ?_
  | ((with_reducible refine awp_exit ?_); refine zS ?_)
  | ((with_reducible refine CallK_id ?_); refine zcF ?_; refine ⟨_, by first | exact ih (gt e.kids i) (El.size_lt (gt_memE (by omega))) | fail, fun _ => rfl, fun _ => rfl, rfl, ?_⟩; try refine zS ?_)
  | ((with_reducible refine awp_label ?_); try refine zS ?_)
  | ((with_reducible refine awp_goto ?_); try refine zS ?_)
  | ((with_reducible refine awp_scope0 ?_); try refine zS ?_)
  | exact True.intro
  | fail
  · have hi : i < e.ats.length := by omega
    rw [← h2, drop_gtE hi, getA, if_pos (by assumption)]
  · have hi : i < e.ats.length := by omega
    refine ⟨i + 1, ⟨by omega, ?_⟩, by omega, (by exact zwc 1)⟩
    rw [← h2, drop_gtE hi, getA, if_neg (by assumption)]
  · have hi : i = e.ats.length := by omega
    subst hi
    rw [← h2, List.drop_length, getA]
    rfl
end Go.Eng
open Go Go.Proofs
namespace Go.Eng
set_option linter.unusedSimpArgs false
set_option linter.unusedVariables false
set_option maxRecDepth 100000
set_option maxHeartbeats 8000000
mutual
def El.gd : El → Prop
  | .mk n a k t => n.length ≤ 140737488351232 ∧ t.length ≤ 140737488351232 ∧ (∀ x ∈ a, x.name.length ≤ 140737488351232 ∧ x.val.length ≤ 140737488351232) ∧ El.gds k
def El.gds : List El → Prop
  | [] => True
  | t :: l => t.gd ∧ El.gds l
end
theorem El.gds_mem : ∀ {l : List El} {k : El}, El.gds l → k ∈ l → k.gd
  | [], k, h, hk => by simp at hk
  | a :: l, k, h, hk => by
    rw [El.gds] at h
    rcases List.mem_cons.1 hk with rfl | hk
    · exact h.1
    · exact El.gds_mem h.2 hk
theorem El.gd_name {e : El} (h : e.gd) : e.name.length ≤ 140737488351232 := by cases e; rw [El.gd] at h; exact h.1
theorem El.gd_text {e : El} (h : e.gd) : e.text.length ≤ 140737488351232 := by cases e; rw [El.gd] at h; exact h.2.1
theorem El.gd_at {e : El} (h : e.gd) : ∀ x ∈ e.ats, x.name.length ≤ 140737488351232 ∧ x.val.length ≤ 140737488351232 := by cases e; rw [El.gd] at h; exact h.2.2.1
theorem El.gd_kid {e : El} (h : e.gd) : ∀ k ∈ e.kids, k.gd := by cases e; rw [El.gd] at h; exact fun k hk => El.gds_mem h.2.2.2 hk
def thenL (p : Bool × Int) (f : Int → Bool × Int) : Bool × Int := if p.1 = true then (true, p.2) else f p.2
theorem thenL_t {p : Bool × Int} {f : Int → Bool × Int} (h : p.1 = true) : thenL p f = (true, p.2) := if_pos h
theorem thenL_f {p : Bool × Int} {f : Int → Bool × Int} (h : p.1 = false) : thenL p f = f p.2 := if_neg (by simp [h])
def largeAs : List At → Int → Bool × Int
  | [], r => (false, r)
  | a :: l, r => if r - 1 - (a.name.length : Int) - (a.val.length : Int) < 0 then (true, r - 1 - (a.name.length : Int) - (a.val.length : Int)) else largeAs l (r - 1 - (a.name.length : Int) - (a.val.length : Int))
mutual
def largeE : El → Int → Int → Bool × Int
  | .mk _ a k t, r, d => if d > 40 ∨ k.length > 100 ∨ a.length > 100 then (true, r) else if r - 1 - (t.length : Int) < 0 then (true, r - 1 - (t.length : Int)) else thenL (largeAs a (r - 1 - (t.length : Int))) fun r => largeEs k r (d + 1)
def largeEs : List El → Int → Int → Bool × Int
  | [], r, _ => (false, r)
  | t :: l, r, d => thenL (largeE t r d) fun r => largeEs l r d
end
theorem largeE_eq (e : El) (r d : Int) : largeE e r d = if d > 40 ∨ e.kids.length > 100 ∨ e.ats.length > 100 then (true, r) else if r - 1 - (e.text.length : Int) < 0 then (true, r - 1 - (e.text.length : Int)) else thenL (largeAs e.ats (r - 1 - (e.text.length : Int))) fun r => largeEs e.kids r (d + 1) := by
  cases e with | mk => rw [largeE]; rfl
def At.wts : List At → Nat
  | [] => 0
  | a :: l => 1 + a.name.length + a.val.length + At.wts l
mutual
def El.wt : El → Nat
  | .mk _ a k t => 1 + t.length + At.wts a + El.wts k
def El.wts : List El → Nat
  | [] => 0
  | t :: l => t.wt + El.wts l
end
mutual
theorem El.size_wt : ∀ e : El, e.size ≤ e.wt
  | .mk n a k t => by rw [El.size, El.wt]; have := El.sizes_wts k; omega
theorem El.sizes_wts : ∀ l : List El, El.sizes l ≤ El.wts l
  | [] => by simp [El.sizes]
  | t :: l => by rw [El.sizes, El.wts]; have := El.size_wt t; have := El.sizes_wts l; omega
end
theorem largeAs_le : ∀ (l : List At) (r : Int), (largeAs l r).2 ≤ r ∧ ((largeAs l r).1 = false → 0 ≤ r → 0 ≤ (largeAs l r).2 ∧ (At.wts l : Int) ≤ r - (largeAs l r).2)
  | [], r => by simp [largeAs, At.wts]
  | a :: l, r => by
    rw [largeAs]
    split
    · refine ⟨by simp only; omega, by simp⟩
    · have h := largeAs_le l (r - 1 - (a.name.length : Int) - (a.val.length : Int))
      refine ⟨by omega, fun h1 h2 => ?_⟩
      have := h.2 h1 (by omega)
      rw [At.wts]
      omega
mutual
theorem largeE_le : ∀ (e : El) (r d : Int), (largeE e r d).2 ≤ r ∧ ((largeE e r d).1 = false → 0 ≤ (largeE e r d).2 ∧ (e.wt : Int) ≤ r - (largeE e r d).2)
  | .mk n a k t, r, d => by
    rw [largeE]
    split
    · simp
    · split
      · refine ⟨by simp only; omega, by simp⟩
      · have h1 := largeAs_le a (r - 1 - (t.length : Int))
        rcases Bool.eq_false_or_eq_true (largeAs a (r - 1 - (t.length : Int))).1 with g | g
        · rw [thenL_t g]; refine ⟨by simp only; omega, by simp⟩
        · rw [thenL_f g]
          have k1 := h1.2 g (by omega)
          have h2 := largeEs_le k (largeAs a (r - 1 - (t.length : Int))).2 (d + 1)
          refine ⟨by omega, fun h => ?_⟩
          have k2 := h2.2 h
          rw [El.wt]
          omega
theorem largeEs_le : ∀ (l : List El) (r d : Int), (largeEs l r d).2 ≤ r ∧ ((largeEs l r d).1 = false → (0 ≤ r → 0 ≤ (largeEs l r d).2) ∧ (El.wts l : Int) ≤ r - (largeEs l r d).2)
  | [], r, d => by simp [largeEs, El.wts]
  | t :: l, r, d => by
    rw [largeEs]
    have h1 := largeE_le t r d
    rcases Bool.eq_false_or_eq_true (largeE t r d).1 with g | g
    · rw [thenL_t g]; refine ⟨by simp only; omega, by simp⟩
    · rw [thenL_f g]
      have h2 := largeEs_le l (largeE t r d).2 d
      have h3 := h1.2 g
      refine ⟨by omega, fun h => ?_⟩
      have h4 := h2.2 h
      rw [El.wts]
      omega
end
def KE (e : El) (d : Int) : Int → Bool × Int := fun r => largeEs e.kids r (d + 1)
theorem lAs_t {a : At} {l : List At} {r : Int} {f : Int → Bool × Int} (h : r - 1 - (a.name.length : Int) - (a.val.length : Int) < 0) : thenL (largeAs (a :: l) r) f = (true, r - 1 - (a.name.length : Int) - (a.val.length : Int)) := by rw [largeAs, if_pos h, thenL_t rfl]
theorem lAs_f {a : At} {l : List At} {r : Int} {f : Int → Bool × Int} (h : ¬ r - 1 - (a.name.length : Int) - (a.val.length : Int) < 0) : thenL (largeAs (a :: l) r) f = thenL (largeAs l (r - 1 - (a.name.length : Int) - (a.val.length : Int))) f := by rw [largeAs, if_neg h]
theorem lAs_n {r : Int} {f : Int → Bool × Int} : thenL (largeAs [] r) f = f r := by rw [largeAs, thenL_f rfl]
theorem large_ok (e : El) (r d : Int) (hgd : e.gd) (hr : 0 ≤ r) (hr2 : r ≤ 1000000) (hd : 0 ≤ d) (hd2 : d ≤ 41) : AFn env 7 [e.a, P0, aI d] [some (.box [.d (dI r)])] (aB (largeE e r d).1) [some (.box [.d (dI (largeE e r d).2)])] := by
  generalize hn : e.size = n
  induction n using Nat.strongRecOn generalizing e r d with
  | _ n ih0 =>
    have ih : ∀ k r d, k.size < e.size → k.gd → 0 ≤ r → r ≤ 1000000 → 0 ≤ d → d ≤ 41 → AFn env 7 [k.a, P0, aI d] [some (.box [.d (dI r)])] (aB (largeE k r d).1) [some (.box [.d (dI (largeE k r d).2)])] := fun k r d h h1 h2 h3 h4 h5 => ih0 k.size (by omega) k r d h1 h2 h3 h4 h5 rfl
    have ht := El.gd_text hgd
    refine afn_body Tryd.func7 rfl (by decide) ?_
    simp only [Tryd.ntmps7, Tryd.results7, List.length_cons, List.length_nil, List.cons_append, List.nil_append, Nat.reduceAdd, Nat.reduceSub, List.replicate]
    repeat' first
    | with_reducible refine awp_seq ?_
    | ((with_reducible refine awp_region ?_); refine zS ?_)
    | ((with_reducible refine Gd_nd ?_ ?_) <;> intro hb hb2 <;> first | contradiction | (exfalso; omega) | (refine zH hb2 ?_; try clear hb2))
    | ((with_reducible refine Gd_nb ?_ ?_) <;> intro hb <;> first | contradiction | refine zH hb ?_)
    | ((with_reducible refine Gd_d ?_ ?_) <;> intro hb hb2 <;> first | contradiction | (exfalso; omega) | (refine zH hb2 ?_; try clear hb2))
    | ((with_reducible refine Gd_b ?_ ?_) <;> intro hb <;> first | contradiction | refine zH hb ?_)
    | ((with_reducible refine Res_id ?_); refine zS ?_)
    | ((with_reducible refine awp_drawnC ?_ ?_); rfl; refine zS ?_)
    | ((with_reducible refine awp_drawnA ?_ ?_); rfl; refine zS ?_)
    | ((with_reducible refine CGd_nd ?_ ?_) <;> intro hb hb2 <;> first | contradiction | (exfalso; omega) | (refine zH hb2 ?_; try clear hb2))
    | ((with_reducible refine CGd_nb ?_ ?_) <;> intro hb <;> first | contradiction | refine zH hb ?_)
    | ((with_reducible refine CGd_d ?_ ?_) <;> intro hb hb2 <;> first | contradiction | (exfalso; omega) | (refine zH hb2 ?_; try clear hb2))
    | ((with_reducible refine CGd_b ?_ ?_) <;> intro hb <;> first | contradiction | refine zH hb ?_)
    | ((with_reducible refine CRes_id ?_); refine zS ?_)
    | ((with_reducible refine DStep_id ?_); refine zdP ?_; refine ⟨_, by first | fail | fail, fun _ => rfl, fun _ => rfl, rfl, (fun h => by first | cases h | fail), ?_⟩; try refine zS ?_)
    | ((with_reducible refine DStep_id ?_); refine zdW ?_; refine ⟨_, by first | fail | fail, fun _ => rfl, fun _ => rfl, rfl, ?_⟩; try refine zS ?_)
    | ((with_reducible refine AWP_c ?_); refine zcdT ?_)
    | ((with_reducible refine AWP_c ?_); refine zcdF ?_)
    | ((with_reducible refine AWP_c ?_); refine zcdN ?_ ?_ <;> intro hb hb2 <;> first | contradiction | (exfalso; omega) | ((try refine zH hb2 ?_); try clear hb2))
    | ((with_reducible refine AWP_c ?_); refine zcdD ?_ ?_ <;> intro hb hb2 <;> first | contradiction | (exfalso; omega) | ((try refine zH hb2 ?_); try clear hb2))
    | ((with_reducible refine AWP_c ?_); refine zcdM ?_ ?_ <;> intro hb <;> first | contradiction | (try refine zH hb ?_))
    | ((with_reducible refine AWP_c ?_); refine zcdB ?_ ?_ <;> intro hb <;> first | contradiction | (try refine zH hb ?_))
    | ((with_reducible refine awp_ret ?_); refine fin_r ?_)
    | ((with_reducible refine awp_ret ?_); refine fin_q ?_ ?_)
    | with_reducible refine fin_qn ?_ ?_
    | ((with_reducible refine awp_skip ?_); refine zS ?_)
    | ((with_reducible refine awp_exit ?_); refine zS ?_)
    | ((with_reducible refine CallK_id ?_); refine zcF ?_; refine ⟨_, by first | fail | fail, fun _ => rfl, fun _ => rfl, rfl, ?_⟩; try refine zS ?_)
    | ((with_reducible refine awp_label ?_); try refine zS ?_)
    | ((with_reducible refine awp_goto ?_); try refine zS ?_)
    | ((with_reducible refine awp_scope0 ?_); try refine zS ?_)
    | exact True.intro
    | fail
    all_goals first
      | (rw [largeE_eq, if_pos (by omega)]; done)
      | (rw [largeE_eq, if_neg (by omega), if_pos (by omega)]; done)
      | skip
    refine awp_block ?_
    refine awp_loopT (fun s : Nat × Int => s.1 ≤ e.ats.length ∧ 0 ≤ s.2 ∧ s.2 ≤ r ∧ largeE e r d = thenL (largeAs (e.ats.drop s.1) s.2) (KE e d)) (fun s => e.ats.length - s.1) (fun s => [(45, aI s.1)])
      (fun s => [some (.box [.d (dI s.2)]), some (.box e.bs)]) (0, r - 1 - (e.text.length : Int)) ⟨by simp, by simp only; omega, by simp only; omega, by rw [largeE_eq, if_neg (by omega), if_neg (by omega)]; rfl⟩ (by exact zwl) ?_
    rintro ⟨i, r1⟩ ⟨h1, h2, h3, h4⟩
    simp only at h1 h2 h3 h4
    have hat : i < e.ats.length → (gt e.ats i).name.length ≤ 140737488351232 ∧ (gt e.ats i).val.length ≤ 140737488351232 := fun h => El.gd_at hgd _ (gt_memE h)
    refine zT ?_
    repeat' first
    | with_reducible refine awp_seq ?_
    | ((with_reducible refine awp_region ?_); refine zS ?_)
    | ((with_reducible refine Gd_nd ?_ ?_) <;> intro hb hb2 <;> first | contradiction | (exfalso; omega) | (refine zH hb2 ?_; try clear hb2))
    | ((with_reducible refine Gd_nb ?_ ?_) <;> intro hb <;> first | contradiction | refine zH hb ?_)
    | ((with_reducible refine Gd_d ?_ ?_) <;> intro hb hb2 <;> first | contradiction | (exfalso; omega) | (refine zH hb2 ?_; try clear hb2))
    | ((with_reducible refine Gd_b ?_ ?_) <;> intro hb <;> first | contradiction | refine zH hb ?_)
    | ((with_reducible refine Res_id ?_); refine zS ?_)
    | ((with_reducible refine awp_drawnC ?_ ?_); rfl; refine zS ?_)
    | ((with_reducible refine awp_drawnA ?_ ?_); rfl; refine zS ?_)
    | ((with_reducible refine CGd_nd ?_ ?_) <;> intro hb hb2 <;> first | contradiction | (exfalso; omega) | (refine zH hb2 ?_; try clear hb2))
    | ((with_reducible refine CGd_nb ?_ ?_) <;> intro hb <;> first | contradiction | refine zH hb ?_)
    | ((with_reducible refine CGd_d ?_ ?_) <;> intro hb hb2 <;> first | contradiction | (exfalso; omega) | (refine zH hb2 ?_; try clear hb2))
    | ((with_reducible refine CGd_b ?_ ?_) <;> intro hb <;> first | contradiction | refine zH hb ?_)
    | ((with_reducible refine CRes_id ?_); refine zS ?_)
    | ((with_reducible refine DStep_id ?_); refine zdP ?_; refine ⟨_, by first | fail | fail, fun _ => rfl, fun _ => rfl, rfl, (fun h => by first | cases h | fail), ?_⟩; try refine zS ?_)
    | ((with_reducible refine DStep_id ?_); refine zdW ?_; refine ⟨_, by first | fail | fail, fun _ => rfl, fun _ => rfl, rfl, ?_⟩; try refine zS ?_)
    | ((with_reducible refine AWP_c ?_); refine zcdT ?_)
    | ((with_reducible refine AWP_c ?_); refine zcdF ?_)
    | ((with_reducible refine AWP_c ?_); refine zcdN ?_ ?_ <;> intro hb hb2 <;> first | contradiction | (exfalso; omega) | ((try refine zH hb2 ?_); try clear hb2))
    | ((with_reducible refine AWP_c ?_); refine zcdD ?_ ?_ <;> intro hb hb2 <;> first | contradiction | (exfalso; omega) | ((try refine zH hb2 ?_); try clear hb2))
    | ((with_reducible refine AWP_c ?_); refine zcdM ?_ ?_ <;> intro hb <;> first | contradiction | (try refine zH hb ?_))
    | ((with_reducible refine AWP_c ?_); refine zcdB ?_ ?_ <;> intro hb <;> first | contradiction | (try refine zH hb ?_))
    | ((with_reducible refine awp_ret ?_); refine fin_r ?_)
    | ((with_reducible refine awp_ret ?_); refine fin_q ?_ ?_)
    | with_reducible refine fin_qn ?_ ?_
    | ((with_reducible refine awp_skip ?_); refine zS ?_)
    | with_reducible refine awp_block ?_
    | ((with_reducible refine awp_exit ?_); refine zS ?_)
    | ((with_reducible refine CallK_id ?_); refine zcF ?_; refine ⟨_, by first | fail | fail, fun _ => rfl, fun _ => rfl, rfl, ?_⟩; try refine zS ?_)
    | ((with_reducible refine awp_label ?_); try refine zS ?_)
    | ((with_reducible refine awp_goto ?_); try refine zS ?_)
    | ((with_reducible refine awp_scope0 ?_); try refine zS ?_)
    | exact True.intro
    | fail
    · have hi : i < e.ats.length := by omega
      rw [h4, drop_gtE hi, lAs_t (by assumption)]
    · have hi : i < e.ats.length := by omega
      rw [h4, drop_gtE hi, lAs_t (by assumption)]
    · have hi : i < e.ats.length := by omega
      exact ⟨(i + 1, r1 - 1 - ((gt e.ats i).name.length : Int) - ((gt e.ats i).val.length : Int)), ⟨by simp only; omega, by simp only; omega, by simp only; omega, by rw [h4, drop_gtE hi, lAs_f (by assumption)]⟩, by simp only; omega, (by exact zwc 2)⟩
    have h0 : largeE e r d = largeEs e.kids r1 (d + 1) := by
      have hi : i = e.ats.length := by omega
      subst hi
      rw [h4, List.drop_length, lAs_n]; rfl
    refine awp_loopT (fun s : Nat × Int => s.1 ≤ e.kids.length ∧ 0 ≤ s.2 ∧ s.2 ≤ r ∧ largeE e r d = largeEs (e.kids.drop s.1) s.2 (d + 1)) (fun s => e.kids.length - s.1) (fun s => [(74, aI s.1)])
      (fun s => [some (.box [.d (dI s.2)]), some (.box e.bs)]) (0, r1) ⟨by simp, by simp only; omega, by simp only; omega, by rw [h0]; rfl⟩ (by exact zwl) ?_
    clear h0 hat h1 h2 h3 h4
    rintro ⟨j, r2⟩ ⟨h1, h2, h3, h4⟩
    simp only at h1 h2 h3 h4
    refine zT ?_
    repeat' first
    | with_reducible refine awp_seq ?_
    | ((with_reducible refine awp_region ?_); refine zS ?_)
    | ((with_reducible refine Gd_nd ?_ ?_) <;> intro hb hb2 <;> first | contradiction | (exfalso; omega) | (refine zH hb2 ?_; try clear hb2))
    | ((with_reducible refine Gd_nb ?_ ?_) <;> intro hb <;> first | contradiction | refine zH hb ?_)
    | ((with_reducible refine Gd_d ?_ ?_) <;> intro hb hb2 <;> first | contradiction | (exfalso; omega) | (refine zH hb2 ?_; try clear hb2))
    | ((with_reducible refine Gd_b ?_ ?_) <;> intro hb <;> first | contradiction | refine zH hb ?_)
    | ((with_reducible refine Res_id ?_); refine zS ?_)
    | ((with_reducible refine awp_drawnC ?_ ?_); rfl; refine zS ?_)
    | ((with_reducible refine awp_drawnA ?_ ?_); rfl; refine zS ?_)
    | ((with_reducible refine CGd_nd ?_ ?_) <;> intro hb hb2 <;> first | contradiction | (exfalso; omega) | (refine zH hb2 ?_; try clear hb2))
    | ((with_reducible refine CGd_nb ?_ ?_) <;> intro hb <;> first | contradiction | refine zH hb ?_)
    | ((with_reducible refine CGd_d ?_ ?_) <;> intro hb hb2 <;> first | contradiction | (exfalso; omega) | (refine zH hb2 ?_; try clear hb2))
    | ((with_reducible refine CGd_b ?_ ?_) <;> intro hb <;> first | contradiction | refine zH hb ?_)
    | ((with_reducible refine CRes_id ?_); refine zS ?_)
    | ((with_reducible refine DStep_id ?_); refine zdP ?_; refine ⟨_, by first | fail | fail, fun _ => rfl, fun _ => rfl, rfl, (fun h => by first | cases h | fail), ?_⟩; try refine zS ?_)
    | ((with_reducible refine DStep_id ?_); refine zdW ?_; refine ⟨_, by first | fail | fail, fun _ => rfl, fun _ => rfl, rfl, ?_⟩; try refine zS ?_)
    | ((with_reducible refine DStep_id ?_); refine zdT [0] ?_; refine ⟨_, _, by first | exact ih (gt e.kids j) r2 (d + 1) (El.size_lt (gt_memE (by omega))) (El.gd_kid hgd _ (gt_memE (by omega))) (by omega) (by omega) (by omega) (by omega) | fail, ?_⟩; try refine zS ?_)
    | ((with_reducible refine AWP_c ?_); refine zcdT ?_)
    | ((with_reducible refine AWP_c ?_); refine zcdF ?_)
    | ((with_reducible refine AWP_c ?_); refine zcdN ?_ ?_ <;> intro hb hb2 <;> first | contradiction | (exfalso; omega) | ((try refine zH hb2 ?_); try clear hb2))
    | ((with_reducible refine AWP_c ?_); refine zcdD ?_ ?_ <;> intro hb hb2 <;> first | contradiction | (exfalso; omega) | ((try refine zH hb2 ?_); try clear hb2))
    | ((with_reducible refine AWP_c ?_); refine zcdM ?_ ?_ <;> intro hb <;> first | contradiction | (try refine zH hb ?_))
    | ((with_reducible refine AWP_c ?_); refine zcdB ?_ ?_ <;> intro hb <;> first | contradiction | (try refine zH hb ?_))
    | ((with_reducible refine awp_ret ?_); refine fin_r ?_)
    | ((with_reducible refine awp_ret ?_); refine fin_q ?_ ?_)
    | with_reducible refine fin_qn ?_ ?_
    | ((with_reducible refine awp_skip ?_); refine zS ?_)
    | with_reducible refine awp_block ?_
    | ((with_reducible refine awp_exit ?_); refine zS ?_)
    | ((with_reducible refine CallK_id ?_); refine zcF ?_; refine ⟨_, by first | fail | fail, fun _ => rfl, fun _ => rfl, rfl, ?_⟩; try refine zS ?_)
    | ((with_reducible refine CallK_id ?_); refine zcT [0] ?_; refine ⟨_, _, by first | exact ih (gt e.kids j) r2 (d + 1) (El.size_lt (gt_memE (by omega))) (El.gd_kid hgd _ (gt_memE (by omega))) (by omega) (by omega) (by omega) (by omega) | fail, ?_⟩; try refine zS ?_)
    | ((with_reducible refine awp_label ?_); try refine zS ?_)
    | ((with_reducible refine awp_goto ?_); try refine zS ?_)
    | ((with_reducible refine awp_scope0 ?_); try refine zS ?_)
    | exact True.intro
    | fail
    · have hi : j < e.kids.length := by omega
      rw [h4, drop_gtE hi, largeEs, thenL_t ‹_ = true›]
    · have hi : j < e.kids.length := by omega
      rw [h4, drop_gtE hi, largeEs, thenL_t ‹_ = true›]
    · have hi : j < e.kids.length := by omega
      have hl := ‹(largeE (gt e.kids j) r2 (d + 1)).1 = false›
      have hq := largeE_le (gt e.kids j) r2 (d + 1)
      have hq2 := hq.2 hl
      exact ⟨(j + 1, (largeE (gt e.kids j) r2 (d + 1)).2), ⟨by simp only; omega, by simp only; omega, by simp only; omega, by rw [h4, drop_gtE hi, largeEs, thenL_f ‹_ = false›]⟩, by simp only; omega, (by exact zwc 2)⟩
    · have hi : j = e.kids.length := by omega
      subst hi
      rw [h4, List.drop_length, largeEs]
    · have hi : j = e.kids.length := by omega
      subst hi
      rw [h4, List.drop_length, largeEs]
end Go.Eng
open Go Go.Proofs Go.RowKit
namespace Go.Eng
set_option linter.unusedSimpArgs false
set_option linter.unusedVariables false
set_option maxRecDepth 100000
set_option maxHeartbeats 4000000
theorem sizeB : (Tryd.prog.info? 59).map (·.size) = some 2 := by kernel_rfl
theorem liesB : liesAt Tryd.prog Tryd.prog.depth 59 (2 / Tryd.prog.cellsOf 59) 0 59 1 = true := by kernel_rfl
theorem copyCheck_used (b : Nat) (w : World) (h0 : w.cell? ⟨b, 0, none⟩ = some (.pointer (some ⟨b, 0, none⟩))) :
    Calls Tryd.prog 42 #[.pointer (some ⟨b, 0, none⟩)] w fun e w' => e = .returned (.tuple #[]) ∧ w' = w := by
  obtain ⟨j, hj, _⟩ := Option.map_eq_some_iff.1 sizeB
  go_enter Tryd.func42, Tryd.ntmps42
  go_wp2
  rw [Lib.run_neq_ptr_same w _ Tryd.underlying56 hj]
  go_wp2
  go_end0
  exact ⟨rfl, rfl⟩
theorem copyCheck_fresh (b : Nat) (w : World) (h0 : w.cell? ⟨b, 0, none⟩ = some (.pointer none)) (hsh : w.shape? b = some (59, 2)) (hfz : w.frozen? ⟨b, 0, none⟩ = false) :
    Calls Tryd.prog 42 #[.pointer (some ⟨b, 0, none⟩)] w fun e w' => e = .returned (.tuple #[]) ∧ w' = w.setCell ⟨b, 0, none⟩ (.pointer (some ⟨b, 0, none⟩)) := by
  obtain ⟨j, hj, hjs⟩ := Option.map_eq_some_iff.1 sizeB
  go_enter Tryd.func42, Tryd.ntmps42
  go_wp2
  rw [Lib.run_to_unsafe w ⟨b, 0, none⟩ Tryd.underlying56 Tryd.underlying119 hj (by rw [hjs]; decide) hsh (Nat.zero_lt_succ 1)]
  simp only [Result.andThen]
  rw [Oper.upon_value]
  go_wp2
  rw [run_callFunc_extern Tryd.func62 (by kernel_rfl) (by kernel_rfl) (by kernel_rfl) (e := Extern.AbiNoEscape.same) (by kernel_rfl)]
  rw [Lib.run_noEscape]
  simp only [Result.andThen]
  rw [Oper.upon_value]
  go_wp2
  rw [Lib.run_from_unsafe w ⟨b, 0, none⟩ Tryd.underlying119 Tryd.underlying56 hj hsh liesB]
  simp only [Result.andThen]
  rw [Oper.upon_value]
  go_wp2
  go_end0
  exact ⟨rfl, rfl⟩
theorem string_row (l : List UInt8) (h0 : l ≠ []) (h63 : l.length ≤ 9223372036854775807) (b g cap cells : Nat) (w : World) (h1 : w.drew.cell? ⟨b, 1, none⟩ = some (.slice (some ⟨g, 0, none⟩) l.length cap)) (hcap : l.length ≤ cap) (hn : l.length ≤ cells) (hsh : w.drew.shape? g = some (5, cells))
    (hc : ∀ j x, l[j]? = some x → w.drew.cell? ((⟨g, 0, none⟩ : Addr).add j) = some (.int .u8 x.toNat)) :
    Calls Tryd.prog 24 #[.pointer (some ⟨b, 0, none⟩)] w fun e w' => e = .returned (.string ⟨l.toArray⟩) ∧ w' = w.drew.freeze ⟨g, 0, none⟩ l.length := by
  have hl : 0 < l.length := List.length_pos_iff.2 h0
  have hSD : (Builtin.unsafeSliceData_ #[57] 84 #[.slice (some ⟨g, 0, none⟩) l.length cap]).run Tryd.prog w.drew = .ok (.pointer (some ⟨g, 0, none⟩)) w.drew :=
    Lib.run_unsafeSliceData_row _ _ _ _ _ _ (by omega)
  have hUS : (Builtin.unsafeString_ #[84, 3] 9 #[.pointer (some ⟨g, 0, none⟩), .int .i64 l.length]).run Tryd.prog w.drew = .ok (.string ⟨l.toArray⟩) (w.drew.freeze ⟨g, 0, none⟩ l.length) :=
    Lib.run_unsafeString_row w.drew 84 3 9 5 Tryd.underlying84 (by kernel_rfl) g cells hsh l h0 hn h63 hc
  have mixed : Tryd.prog.follows .mixedOrders = true := by kernel_rfl
  go_enter Tryd.func24, Tryd.ntmps24
  go_wp2
  go_region_o
  all_goals (go_wp2; go_ret; exact ⟨rfl, rfl⟩)
theorem string_nil (b : Nat) (w : World) (h1 : w.drew.cell? ⟨b, 1, none⟩ = some (.slice none 0 0)) :
    Calls Tryd.prog 24 #[.pointer (some ⟨b, 0, none⟩)] w fun e w' => e = .returned (.string ⟨#[]⟩) ∧ w' = w.drew := by
  have hSD : (Builtin.unsafeSliceData_ #[57] 84 #[.slice none 0 0]).run Tryd.prog w.drew = .ok (.pointer none) w.drew := rfl
  have hUS : (Builtin.unsafeString_ #[84, 3] 9 #[.pointer none, .int .i64 0]).run Tryd.prog w.drew = .ok (.string ⟨#[]⟩) w.drew := Lib.run_unsafeString_none w.drew 84 3 9 none
  have mixed : Tryd.prog.follows .mixedOrders = true := by kernel_rfl
  go_enter Tryd.func24, Tryd.ntmps24
  go_wp2
  go_region_o
  all_goals (go_wp2; go_ret; exact ⟨rfl, rfl⟩)
def cBd (u : Bool) : C := if u = true then .ptr 0 0 0 0 else .d (.sc (.pointer none))
def rU8 (b : UInt8) : List D := [dU b.toNat]
def Bd (u : Bool) (s : Str) : Heap := [some (.box [cBd u, .own 1 0 s.length s.length] (some 59)), some (.rows 1 (s.map rU8) (some 5))]
theorem text_ok (u : Bool) (s : Str) (h0 : s ≠ []) (hs : s.length ≤ 9223372036854775807) : AFn env 24 [P0] (Bd u s) (aS s) [none, none] := afn_text (by kernel_rfl) h0 (fun b g cap cells w h1 h2 h3 h4 h5 => string_row s h0 hs b g cap cells w h1 h2 h3 h4 h5)
theorem void_ok (p : C) : AFn env 24 [P0] [some (.box [p, .nils] (some 59))] (aS []) [none] := afn_void (by kernel_rfl) string_nil
theorem check_ok (u : Bool) (c : C) (H : Heap) : AFn env 42 [P0] (some (.box [cBd u, c] (some 59)) :: H) (.tup []) (some (.box [.ptr 0 0 0 0, c] (some 59)) :: H) := by
  cases u with
  | false => exact afn_fresh (by kernel_rfl) copyCheck_fresh
  | true => exact afn_used (by kernel_rfl) copyCheck_used
end Go.Eng
