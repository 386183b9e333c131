/- Each function of the program, walked over plain data: what it comes to, at all arguments. -/
import Derived.Test.YthodghlpcklaeaaGreatDoorEf
import Derived.Test.YthodghlpcklaeaaGreatDoorProg
import Derived.KernelRfl
namespace Go.Eng
open Go
set_option linter.unusedSimpArgs false

def dI (n : Int) : D := .sc (.int .i64 n)
def dB (b : Bool) : D := .sc (.bool b)
def aI (n : Int) : A := .c (.d (.sc (.int .i64 n)))
def aB (b : Bool) : A := .c (.d (.sc (.bool b)))
def aF (l : List (List D)) : A := .c (.d (.fz l))
def P0 : A := .c (.ptr 0 0 0 0)

inductive T
  | mk (op n : Int) (kids : List T)
def T.op : T → Int | .mk o _ _ => o
def T.n : T → Int | .mk _ n _ => n
def T.kids : T → List T | .mk _ _ k => k
mutual
def T.row : T → List D
  | .mk o n k => [dI o, dI n, .fz (T.rows k)]
def T.rows : List T → List (List D)
  | [] => []
  | t :: l => t.row :: T.rows l
end
theorem T.rows_eq (l : List T) : T.rows l = l.map T.row := by
  induction l with
  | nil => rfl
  | cons t l ih => simp [T.rows, ih]
theorem T.row_eq (t : T) : t.row = [dI t.op, dI t.n, .fz (t.kids.map T.row)] := by
  cases t with | mk o n k => simp [T.row, T.rows_eq, T.op, T.n, T.kids]
mutual
def T.size : T → Nat
  | .mk _ _ k => T.sizes k + 1
def T.sizes : List T → Nat
  | [] => 0
  | t :: l => t.size + T.sizes l
end
theorem T.size_eq (t : T) : t.size = T.sizes t.kids + 1 := by cases t; rfl
theorem T.size_kid {k : T} : ∀ {l : List T}, k ∈ l → k.size ≤ T.sizes l
  | [], h => by simp at h
  | a :: l, h => by
    simp only [T.sizes]
    rcases List.mem_cons.1 h with rfl | h
    · omega
    · have := T.size_kid h; omega
theorem T.size_lt {k t : T} (h : k ∈ t.kids) : k.size < t.size := by
  have := T.size_kid h; have := T.size_eq t; omega
theorem T.size_pos (t : T) : 0 < t.size := by rw [T.size_eq]; omega
theorem T.len_le : ∀ (l : List T), l.length ≤ T.sizes l
  | [] => by simp
  | t :: l => by have := T.len_le l; have := t.size_pos; simp only [T.sizes, List.length_cons]; omega
theorem T.kids_len (t : T) : t.kids.length < t.size := by have := T.len_le t.kids; have := T.size_eq t; omega
def T.a (t : T) : A := .agg [.d (dI t.op), .d (dI t.n), .d (.fz (t.kids.map T.row))]
def t0 : T := .mk 0 0 []
instance : Inhabited T := ⟨t0⟩

structure Nd where
  kind : Int
  x : Int
  t : T
instance : Inhabited Nd := ⟨⟨0, 0, t0⟩⟩
def Nd.row (d : Nd) : List D := [dI d.kind, dI d.x, dI d.t.op, dI d.t.n, .fz (d.t.kids.map T.row)]
structure Fl where
  src : Int
  dst : Int
  els : Bool
  t : T
instance : Inhabited Fl := ⟨⟨0, 0, false, t0⟩⟩
def Fl.row (d : Fl) : List D := [dI d.src, dI d.dst, dB d.els, dI d.t.op, dI d.t.n, .fz (d.t.kids.map T.row)]
def Nd.a (d : Nd) : A := .agg [.d (dI d.kind), .d (dI d.x), .d (dI d.t.op), .d (dI d.t.n), .d (.fz (d.t.kids.map T.row))]
def Fl.a (d : Fl) : A := .agg [.d (dI d.src), .d (dI d.dst), .d (dB d.els), .d (dI d.t.op), .d (dI d.t.n), .d (.fz (d.t.kids.map T.row))]
structure Lk where
  src : Int
  dst : Int
instance : Inhabited Lk := ⟨⟨0, 0⟩⟩
def Lk.row (d : Lk) : List D := [dI d.src, dI d.dst]
def Lk.a (d : Lk) : A := .agg [.d (dI d.src), .d (dI d.dst)]

inductive B
  | mk (kind node x y : Int) (t : T) (conds : List T) (kids : List B) (links : List Lk) (nodes : List Nd) (flows : List Fl)
def B.kind : B → Int | .mk k _ _ _ _ _ _ _ _ _ => k
def B.node : B → Int | .mk _ k _ _ _ _ _ _ _ _ => k
def B.x : B → Int | .mk _ _ k _ _ _ _ _ _ _ => k
def B.y : B → Int | .mk _ _ _ k _ _ _ _ _ _ => k
def B.t : B → T | .mk _ _ _ _ k _ _ _ _ _ => k
def B.conds : B → List T | .mk _ _ _ _ _ k _ _ _ _ => k
def B.kids : B → List B | .mk _ _ _ _ _ _ k _ _ _ => k
def B.links : B → List Lk | .mk _ _ _ _ _ _ _ k _ _ => k
def B.nodes : B → List Nd | .mk _ _ _ _ _ _ _ _ k _ => k
def B.flows : B → List Fl | .mk _ _ _ _ _ _ _ _ _ k => k
mutual
def B.row : B → List D
  | .mk k n x y t c ks l ns fs => [dI k, dI n, dI x, dI y, dI t.op, dI t.n, .fz (t.kids.map T.row), .fz (c.map T.row), .fz (B.rows ks), .fz (l.map Lk.row), .fz (ns.map Nd.row), .fz (fs.map Fl.row)]
def B.rows : List B → List (List D)
  | [] => []
  | t :: l => t.row :: B.rows l
end
theorem B.rows_eq (l : List B) : B.rows l = l.map B.row := by
  induction l with
  | nil => rfl
  | cons t l ih => simp [B.rows, ih]
def B.cs (b : B) : List D := [dI b.kind, dI b.node, dI b.x, dI b.y, dI b.t.op, dI b.t.n, .fz (b.t.kids.map T.row), .fz (b.conds.map T.row), .fz (b.kids.map B.row), .fz (b.links.map Lk.row), .fz (b.nodes.map Nd.row), .fz (b.flows.map Fl.row)]
theorem B.row_eq (b : B) : b.row = [dI b.kind, dI b.node, dI b.x, dI b.y, dI b.t.op, dI b.t.n, .fz (b.t.kids.map T.row), .fz (b.conds.map T.row), .fz (b.kids.map B.row), .fz (b.links.map Lk.row), .fz (b.nodes.map Nd.row), .fz (b.flows.map Fl.row)] := by
  cases b with | mk k n x y t c ks l ns fs => simp only [B.row, B.rows_eq, B.kind, B.node, B.x, B.y, B.t, B.conds, B.kids, B.links, B.nodes, B.flows]
def B.bs (b : B) : List C := [.d (dI b.kind), .d (dI b.node), .d (dI b.x), .d (dI b.y), .d (dI b.t.op), .d (dI b.t.n), .d (.fz (b.t.kids.map T.row)), .d (.fz (b.conds.map T.row)), .d (.fz (b.kids.map B.row)), .d (.fz (b.links.map Lk.row)), .d (.fz (b.nodes.map Nd.row)), .d (.fz (b.flows.map Fl.row))]
def B.a (b : B) : A := .agg [.d (dI b.kind), .d (dI b.node), .d (dI b.x), .d (dI b.y), .d (dI b.t.op), .d (dI b.t.n), .d (.fz (b.t.kids.map T.row)), .d (.fz (b.conds.map T.row)), .d (.fz (b.kids.map B.row)), .d (.fz (b.links.map Lk.row)), .d (.fz (b.nodes.map Nd.row)), .d (.fz (b.flows.map Fl.row))]
def b0 : B := .mk 0 0 0 0 t0 [] [] [] [] []
instance : Inhabited B := ⟨b0⟩
def Nd.sizes : List Nd → Nat
  | [] => 0
  | d :: l => d.t.size + Nd.sizes l
def Fl.sizes : List Fl → Nat
  | [] => 0
  | d :: l => d.t.size + Fl.sizes l
mutual
def B.size : B → Nat
  | .mk _ _ _ _ t c ks l ns fs => t.size + T.sizes c + l.length + Nd.sizes ns + Fl.sizes fs + B.sizes ks + 1
def B.sizes : List B → Nat
  | [] => 0
  | t :: l => t.size + B.sizes l
end
theorem B.size_eq (b : B) : b.size = b.t.size + T.sizes b.conds + b.links.length + Nd.sizes b.nodes + Fl.sizes b.flows + B.sizes b.kids + 1 := by cases b; rfl
theorem B.size_kid {k : B} : ∀ {l : List B}, k ∈ l → k.size ≤ B.sizes l
  | [], h => by simp at h
  | a :: l, h => by
    simp only [B.sizes]
    rcases List.mem_cons.1 h with rfl | h
    · omega
    · have := B.size_kid h; omega
theorem B.size_lt {k t : B} (h : k ∈ t.kids) : k.size < t.size := by
  have := B.size_kid h; have := B.size_eq t; omega
theorem B.size_pos (t : B) : 0 < t.size := by rw [B.size_eq]; omega
theorem B.len_le : ∀ (l : List B), l.length ≤ B.sizes l
  | [] => by simp
  | t :: l => by have := B.len_le l; have := t.size_pos; simp only [B.sizes, List.length_cons]; omega
theorem Nd.size_kid {k : Nd} : ∀ {l : List Nd}, k ∈ l → k.t.size ≤ Nd.sizes l
  | [], h => by simp at h
  | a :: l, h => by
    simp only [Nd.sizes]
    rcases List.mem_cons.1 h with rfl | h
    · omega
    · have := Nd.size_kid h; omega
theorem Nd.len_le : ∀ (l : List Nd), l.length ≤ Nd.sizes l
  | [] => by simp
  | t :: l => by have := Nd.len_le l; have := t.t.size_pos; simp only [Nd.sizes, List.length_cons]; omega
theorem Fl.size_kid {k : Fl} : ∀ {l : List Fl}, k ∈ l → k.t.size ≤ Fl.sizes l
  | [], h => by simp at h
  | a :: l, h => by
    simp only [Fl.sizes]
    rcases List.mem_cons.1 h with rfl | h
    · omega
    · have := Fl.size_kid h; omega
theorem Fl.len_le : ∀ (l : List Fl), l.length ≤ Fl.sizes l
  | [] => by simp
  | t :: l => by have := Fl.len_le l; have := t.t.size_pos; simp only [Fl.sizes, List.length_cons]; omega

abbrev Str := List UInt8
def dS (s : Str) : D := .sc (.string (st s))
structure Wd where
  text : Str
  kids : Int
  of : Int
  out : Int
instance : Inhabited Wd := ⟨⟨[], 0, 0, 0⟩⟩
def Wd.row (b : Wd) : List D := [dS b.text, dI b.kids, dI b.of, dI b.out]
def words : List Wd := [⟨[], 0, 0, 0⟩, ⟨[], 0, 0, 0⟩, ⟨[], 0, 0, 0⟩, ⟨[110, 101, 103], 1, 1, 1⟩, ⟨[110, 111, 116], 1, 2, 2⟩, ⟨[97, 100, 100], 2, 1, 1⟩, ⟨[115, 117, 98], 2, 1, 1⟩, ⟨[109, 117, 108], 2, 1, 1⟩,
  ⟨[100, 105, 118], 2, 1, 1⟩, ⟨[109, 111, 100], 2, 1, 1⟩, ⟨[101, 113], 2, 1, 2⟩, ⟨[108, 116], 2, 1, 2⟩, ⟨[108, 101], 2, 1, 2⟩, ⟨[97, 110, 100], 2, 2, 2⟩, ⟨[111, 114], 2, 2, 2⟩]

structure It where
  par : Int
  pos : Int
  b : B
instance : Inhabited It := ⟨⟨0, 0, b0⟩⟩
def It.row (i : It) : List D := [dI i.par, dI i.pos, dI i.b.kind, dI i.b.node, dI i.b.x, dI i.b.y, dI i.b.t.op, dI i.b.t.n, .fz (i.b.t.kids.map T.row), .fz (i.b.conds.map T.row), .fz (i.b.kids.map B.row), .fz (i.b.links.map Lk.row), .fz (i.b.nodes.map Nd.row), .fz (i.b.flows.map Fl.row)]
def It.a (i : It) : A := .agg [.d (dI i.par), .d (dI i.pos), .d (dI i.b.kind), .d (dI i.b.node), .d (dI i.b.x), .d (dI i.b.y), .d (dI i.b.t.op), .d (dI i.b.t.n), .d (.fz (i.b.t.kids.map T.row)), .d (.fz (i.b.conds.map T.row)), .d (.fz (i.b.kids.map B.row)), .d (.fz (i.b.links.map Lk.row)), .d (.fz (i.b.nodes.map Nd.row)), .d (.fz (i.b.flows.map Fl.row))]

theorem dropM {α β : Type} (f : α → β) (l : List α) (i : Nat) : (l.map f).drop i = (l.drop i).map f := (List.map_drop ..).symm
theorem renM (g : Nat → Nat) (l : List D) : renCs g (l.map .d) = l.map .d := by
  rw [renCs_eq, List.map_map]; rfl
theorem invM (sel : List Nat) : ∀ l : List D, invCs sel (l.map .d) = some (l.map .d)
  | [] => rfl
  | d :: l => by simp only [List.map_cons, invCs, invC, invM sel l]
theorem cutM (k : Nat) (l : List D) : cutCells k (l.map .d) = l.map .d := by
  rw [cutCells_eq, List.map_map]; rfl
def Rm (r : Int) : Option Blk := some (.box [.d (dI r)])
attribute [go_sem] Rm renM invM dS Wd.row cutM dropM dI dB aI aB aF T.row_eq T.a Nd.row Nd.a Fl.row Fl.a Lk.row Lk.a B.row_eq B.a It.row It.a P0
end Go.Eng
open Go
namespace Go.Eng
set_option linter.unusedSimpArgs false
set_option linter.unusedVariables false
def cI1 (n : Int) : C := .d (.sc (.int .i64 n))
def stC (s : List Int) : List C := s.map cI1
theorem stC_len (s : List Int) : (stC s).length = s.length := by simp [stC]
theorem cut_arr {s : List Int} : ∀ {o n : Nat}, o + n ≤ s.length → cutC o n (stC s) = some (stC ((s.drop o).take n)) := by
  intro o
  induction o generalizing s with
  | zero =>
    intro n
    induction n generalizing s with
    | zero => intro h; cases s <;> rfl
    | succ n ih =>
      intro h
      cases s with
      | nil => simp at h
      | cons a s =>
        have := ih (s := s) (by simp only [List.length_cons] at h; omega)
        simp only [List.drop_zero] at this ⊢
        rw [List.take_succ_cons]
        show cutC 0 (n + 1) (cI1 a :: stC s) = _
        rw [cutC_1, this]; rfl
  | succ o ih =>
    intro n h
    cases s with
    | nil => simp at h
    | cons a s =>
      show cutC (o + 1) n (cI1 a :: stC s) = _
      rw [cutC_2, ih (by simp only [List.length_cons] at h; omega)]; rfl
theorem cut_all {s : List Int} {n : Nat} (h : s.length = n) : cutC 0 n (stC s) = some (stC s) := by
  rw [cut_arr (by omega), List.drop_zero, List.take_of_length_le (by omega)]
theorem cut_at {s : List Int} {o : Nat} (h : o < s.length) : cutC o 1 (stC s) = some [.d (.sc (.int .i64 (gt s o)))] := by
  rw [cut_arr (by omega), drop_gt h]; rfl
theorem spl_part {a s : List Int} : ∀ {o : Nat}, o + a.length ≤ s.length → splC o (stC a) (stC s) = some (stC (s.take o ++ a ++ s.drop (o + a.length))) := by
  intro o
  induction o generalizing s with
  | zero =>
    induction a generalizing s with
    | nil => intro _; simp; cases s <;> rfl
    | cons b a ih =>
      intro h
      cases s with
      | nil => simp at h
      | cons c s =>
        have := ih (s := s) (by simp only [List.length_cons] at h; omega)
        show splC 0 (cI1 b :: stC a) (cI1 c :: stC s) = _
        simp only [splC, this]
        simp [stC]
  | succ o ih =>
    intro h
    cases s with
    | nil => simp at h
    | cons c s =>
      have := ih (s := s) (by simp only [List.length_cons] at h; omega)
      show splC (o + 1) (stC a) (cI1 c :: stC s) = _
      simp only [splC, this]
      simp [stC, show o + 1 + a.length = (o + a.length) + 1 by omega]
theorem spl_all {s t : List Int} (h : s.length = t.length) : splC 0 (stC t) (stC s) = some (stC t) := by
  rw [spl_part (by omega), List.take_zero, List.nil_append, List.drop_eq_nil_of_le (by omega), List.append_nil]
theorem spl_rep {t : List Int} {n : Nat} {a : Int} (h : t.length = n) : splC 0 (stC t) (stC (List.replicate n a)) = some (stC t) := spl_all (by simp [h])
theorem spl_at {s : List Int} {o : Nat} {v : Int} (h : o < s.length) : splC o [.d (.sc (.int .i64 v))] (stC s) = some (stC (s.set o v)) := by
  have := spl_part (a := [v]) (s := s) (o := o) (by simp; omega)
  rw [List.set_eq_take_append_cons_drop, if_pos h]
  show splC o (stC [v]) (stC s) = _
  rw [this]; simp
theorem frCs_st (m : Nat) (H : Heap) : ∀ s : List Int, frCs m H (stC s) = some (stC s, H)
  | [] => rfl
  | a :: s => by
    show frCs m H (cI1 a :: stC s) = _
    rw [frCs_c]
    simp only [cI1, frC, frCsA_s, frCs_st m H s, mapP_s]; rfl
theorem eqI_st : ∀ {s t : List Int}, s.length = t.length → eqInts (stC s) (stC t) = some (decide (s = t))
  | [], [], _ => rfl
  | a :: s, b :: t, h => by
    show eqInts (cI1 a :: stC s) (cI1 b :: stC t) = _
    simp only [cI1, eqInts, if_pos, eqI_st (s := s) (t := t) (by simpa using h)]
    congr 1
    rw [Bool.eq_iff_iff]; simp
  | [], _ :: _, h => by simp at h
  | _ :: _, [], h => by simp at h
theorem allOne_rep : ∀ n : Nat, allOne (List.replicate n (.int .i64 0)) = true
  | 0 => rfl
  | n + 1 => by rw [List.replicate_succ, allOne, allOne_rep n]; rfl
theorem map_cv (n : Nat) : List.map cvC (List.replicate n (.int .i64 0)) = stC (List.replicate n 0) := by simp [stC, cI1, cvC]
theorem toL_mk (l : List Value) : (Array.mk l).toList = l := rfl
theorem cutM_st (k : Nat) (s : List Int) : cutCells k (stC s) = stC s := by
  rw [cutCells_eq, stC, List.map_map]; rfl
theorem renC_st (g : Nat → Nat) : ∀ s : List Int, renCs g (stC s) = stC s
  | [] => by simp [stC, renCs]
  | a :: s => by
    have := renC_st g s
    simp only [stC, List.map_cons, renCs] at this ⊢
    rw [this]; simp [cI1, renC]
theorem invC_st (sel : List Nat) : ∀ s : List Int, invCs sel (stC s) = some (stC s)
  | [] => by simp [stC, invCs]
  | a :: s => by
    have := invC_st sel s
    simp only [stC, List.map_cons, invCs] at this ⊢
    rw [this]; simp [cI1, invC]
theorem okC_st (k : Nat) : ∀ s : List Int, okCs k (stC s) = true
  | [] => by simp [stC, okCs]
  | a :: s => by
    have := okC_st k s
    simp only [stC, List.map_cons, okCs] at this ⊢
    rw [this]; simp [cI1, okC]
theorem cut_att {s : List Int} {a n o : Nat} (h1 : o < n) (h2 : a + n ≤ s.length) : cutC o 1 (stC ((s.drop a).take n)) = some [.d (.sc (.int .i64 (gt s (a + o))))] := by
  rw [cut_at (by simp; omega)]
  congr 5
  simp [gt, List.getD, List.getElem?_take, h1]
attribute [go_sem 1500] cut_att
attribute [go_sem] map_cv toL_mk allOne_rep List.length_replicate
attribute [go_sem] renC_st invC_st okC_st cutM_st stC_len cut_all cut_at spl_at spl_all spl_rep frCs_st eqI_st
attribute [go_sem 900] cut_arr
end Go.Eng
open Go Go.Proofs
namespace Go.Eng
set_option linter.unusedSimpArgs false
noncomputable def env : Env := mkEnv Tryz.prog (by kernel_rfl) (fun g => match g with | 0 => .pa (words.map Wd.row) | _ => .any) (fun g => by split <;> rfl)
theorem g0 : env.glob 0 = .pa (words.map Wd.row) := rfl
attribute [go_sem] g0

theorem t2und : env.und 2 = some (.int .i64) := by kernel_rfl
theorem t2kind : env.kind 2 = some .i64 := by kernel_rfl
theorem t2ty : env.ty 2 = none := by kernel_rfl
theorem t2agg : env.agg 2 = some false := by kernel_rfl
theorem t2size : env.size 2 = some 1 := by kernel_rfl
theorem t2inf : env.inf 2 = some (1, 8, (.int .i64 0)) := by kernel_rfl
theorem t3und : env.und 3 = some (.int .i64) := by kernel_rfl
theorem t3kind : env.kind 3 = some .i64 := by kernel_rfl
theorem t3ty : env.ty 3 = none := by kernel_rfl
theorem t3agg : env.agg 3 = some false := by kernel_rfl
theorem t3size : env.size 3 = some 1 := by kernel_rfl
theorem t3inf : env.inf 3 = some (1, 8, (.int .i64 0)) := by kernel_rfl
theorem t4und : env.und 4 = some .bool := by kernel_rfl
theorem t4bln : env.bln 4 = true := by kernel_rfl
theorem t4ty : env.ty 4 = none := by kernel_rfl
theorem t4agg : env.agg 4 = some false := by kernel_rfl
theorem t4size : env.size 4 = some 1 := by kernel_rfl
theorem t4inf : env.inf 4 = some (1, 1, (.bool false)) := by kernel_rfl
theorem t5und : env.und 5 = some (.int .u8) := by kernel_rfl
theorem t5kind : env.kind 5 = some .u8 := by kernel_rfl
theorem t5ty : env.ty 5 = none := by kernel_rfl
theorem t5agg : env.agg 5 = some false := by kernel_rfl
theorem t5size : env.size 5 = some 1 := by kernel_rfl
theorem t5inf : env.inf 5 = some (1, 1, (.int .u8 0)) := by kernel_rfl
theorem t9und : env.und 9 = some .string := by kernel_rfl
theorem t9str : env.str 9 = true := by kernel_rfl
theorem t9noInt : env.noInt 9 = true := by kernel_rfl
theorem t9ty : env.ty 9 = none := by kernel_rfl
theorem t9agg : env.agg 9 = some false := by kernel_rfl
theorem t9size : env.size 9 = some 1 := by kernel_rfl
theorem t9inf : env.inf 9 = some (1, 16, (.string ⟨#[]⟩)) := by kernel_rfl
theorem t12und : env.und 12 = some (.int .u64) := by kernel_rfl
theorem t12kind : env.kind 12 = some .u64 := by kernel_rfl
theorem t12ty : env.ty 12 = none := by kernel_rfl
theorem t12agg : env.agg 12 = some false := by kernel_rfl
theorem t12size : env.size 12 = some 1 := by kernel_rfl
theorem t12inf : env.inf 12 = some (1, 8, (.int .u64 0)) := by kernel_rfl
theorem t13isS : env.isStruct 13 = true := by kernel_rfl
theorem t13f0 : env.fld 13 0 = some (0, 9) := by kernel_rfl
theorem t13f1 : env.fld 13 1 = some (1, 12) := by kernel_rfl
theorem t13ty : env.ty 13 = none := by kernel_rfl
theorem t13agg : env.agg 13 = some true := by kernel_rfl
theorem t13size : env.size 13 = some 2 := by kernel_rfl
theorem t13inf : env.inf 13 = some (2, 24, (.agg #[(.string ⟨#[]⟩), (.int .u64 0)])) := by kernel_rfl
theorem t21und : env.und 21 = some (.int .i32) := by kernel_rfl
theorem t21kind : env.kind 21 = some .i32 := by kernel_rfl
theorem t21ty : env.ty 21 = none := by kernel_rfl
theorem t21agg : env.agg 21 = some false := by kernel_rfl
theorem t21size : env.size 21 = some 1 := by kernel_rfl
theorem t21inf : env.inf 21 = some (1, 4, (.int .i32 0)) := by kernel_rfl
theorem t22und : env.und 22 = some (.slice 24) := by kernel_rfl
theorem t22noInt : env.noInt 22 = true := by kernel_rfl
theorem t22elt : env.elt 22 = some 24 := by kernel_rfl
theorem t22ty : env.ty 22 = none := by kernel_rfl
theorem t22agg : env.agg 22 = some false := by kernel_rfl
theorem t22size : env.size 22 = some 1 := by kernel_rfl
theorem t22inf : env.inf 22 = some (1, 24, (.slice none 0 0)) := by kernel_rfl
theorem t23isS : env.isStruct 23 = true := by kernel_rfl
theorem t23f0 : env.fld 23 0 = some (0, 3) := by kernel_rfl
theorem t23f1 : env.fld 23 1 = some (1, 3) := by kernel_rfl
theorem t23f2 : env.fld 23 2 = some (2, 22) := by kernel_rfl
theorem t23ty : env.ty 23 = none := by kernel_rfl
theorem t23agg : env.agg 23 = some true := by kernel_rfl
theorem t23size : env.size 23 = some 3 := by kernel_rfl
theorem t23inf : env.inf 23 = some (3, 40, (.agg #[(.int .i64 0), (.int .i64 0), (.slice none 0 0)])) := by kernel_rfl
theorem t24isS : env.isStruct 24 = true := by kernel_rfl
theorem t24f0 : env.fld 24 0 = some (0, 3) := by kernel_rfl
theorem t24f1 : env.fld 24 1 = some (1, 3) := by kernel_rfl
theorem t24f2 : env.fld 24 2 = some (2, 22) := by kernel_rfl
theorem t24ty : env.ty 24 = none := by kernel_rfl
theorem t24agg : env.agg 24 = some true := by kernel_rfl
theorem t24size : env.size 24 = some 3 := by kernel_rfl
theorem t24inf : env.inf 24 = some (3, 40, (.agg #[(.int .i64 0), (.int .i64 0), (.slice none 0 0)])) := by kernel_rfl
theorem t25und : env.und 25 = some (.slice 32) := by kernel_rfl
theorem t25noInt : env.noInt 25 = true := by kernel_rfl
theorem t25elt : env.elt 25 = some 32 := by kernel_rfl
theorem t25ty : env.ty 25 = none := by kernel_rfl
theorem t25agg : env.agg 25 = some false := by kernel_rfl
theorem t25size : env.size 25 = some 1 := by kernel_rfl
theorem t25inf : env.inf 25 = some (1, 24, (.slice none 0 0)) := by kernel_rfl
theorem t26und : env.und 26 = some (.slice 78) := by kernel_rfl
theorem t26noInt : env.noInt 26 = true := by kernel_rfl
theorem t26elt : env.elt 26 = some 78 := by kernel_rfl
theorem t26ty : env.ty 26 = none := by kernel_rfl
theorem t26agg : env.agg 26 = some false := by kernel_rfl
theorem t26size : env.size 26 = some 1 := by kernel_rfl
theorem t26inf : env.inf 26 = some (1, 24, (.slice none 0 0)) := by kernel_rfl
theorem t27und : env.und 27 = some (.slice 74) := by kernel_rfl
theorem t27noInt : env.noInt 27 = true := by kernel_rfl
theorem t27elt : env.elt 27 = some 74 := by kernel_rfl
theorem t27ty : env.ty 27 = none := by kernel_rfl
theorem t27agg : env.agg 27 = some false := by kernel_rfl
theorem t27size : env.size 27 = some 1 := by kernel_rfl
theorem t27inf : env.inf 27 = some (1, 24, (.slice none 0 0)) := by kernel_rfl
theorem t28und : env.und 28 = some (.slice 76) := by kernel_rfl
theorem t28noInt : env.noInt 28 = true := by kernel_rfl
theorem t28elt : env.elt 28 = some 76 := by kernel_rfl
theorem t28ty : env.ty 28 = none := by kernel_rfl
theorem t28agg : env.agg 28 = some false := by kernel_rfl
theorem t28size : env.size 28 = some 1 := by kernel_rfl
theorem t28inf : env.inf 28 = some (1, 24, (.slice none 0 0)) := by kernel_rfl
theorem t29isS : env.isStruct 29 = true := by kernel_rfl
theorem t29f0 : env.fld 29 0 = some (0, 27) := by kernel_rfl
theorem t29f1 : env.fld 29 1 = some (1, 28) := by kernel_rfl
theorem t29ty : env.ty 29 = none := by kernel_rfl
theorem t29agg : env.agg 29 = some true := by kernel_rfl
theorem t29size : env.size 29 = some 2 := by kernel_rfl
theorem t29inf : env.inf 29 = some (2, 48, (.agg #[(.slice none 0 0), (.slice none 0 0)])) := by kernel_rfl
theorem t30isS : env.isStruct 30 = true := by kernel_rfl
theorem t30f0 : env.fld 30 0 = some (0, 27) := by kernel_rfl
theorem t30f1 : env.fld 30 1 = some (1, 28) := by kernel_rfl
theorem t30ty : env.ty 30 = none := by kernel_rfl
theorem t30agg : env.agg 30 = some true := by kernel_rfl
theorem t30size : env.size 30 = some 2 := by kernel_rfl
theorem t30inf : env.inf 30 = some (2, 48, (.agg #[(.slice none 0 0), (.slice none 0 0)])) := by kernel_rfl
theorem t31isS : env.isStruct 31 = true := by kernel_rfl
theorem t31f0 : env.fld 31 0 = some (0, 3) := by kernel_rfl
theorem t31f1 : env.fld 31 1 = some (1, 3) := by kernel_rfl
theorem t31f2 : env.fld 31 2 = some (2, 3) := by kernel_rfl
theorem t31f3 : env.fld 31 3 = some (3, 3) := by kernel_rfl
theorem t31f4 : env.fld 31 4 = some (4, 24) := by kernel_rfl
theorem t31f5 : env.fld 31 5 = some (7, 22) := by kernel_rfl
theorem t31f6 : env.fld 31 6 = some (8, 25) := by kernel_rfl
theorem t31f7 : env.fld 31 7 = some (9, 26) := by kernel_rfl
theorem t31f8 : env.fld 31 8 = some (10, 30) := by kernel_rfl
theorem t31ty : env.ty 31 = none := by kernel_rfl
theorem t31agg : env.agg 31 = some true := by kernel_rfl
theorem t31size : env.size 31 = some 12 := by kernel_rfl
theorem t31inf : env.inf 31 = some (12, 192, (.agg #[(.int .i64 0), (.int .i64 0), (.int .i64 0), (.int .i64 0), (.int .i64 0), (.int .i64 0), (.slice none 0 0), (.slice none 0 0), (.slice none 0 0), (.slice none 0 0), (.slice none 0 0), (.slice none 0 0)])) := by kernel_rfl
theorem t32isS : env.isStruct 32 = true := by kernel_rfl
theorem t32f0 : env.fld 32 0 = some (0, 3) := by kernel_rfl
theorem t32f1 : env.fld 32 1 = some (1, 3) := by kernel_rfl
theorem t32f2 : env.fld 32 2 = some (2, 3) := by kernel_rfl
theorem t32f3 : env.fld 32 3 = some (3, 3) := by kernel_rfl
theorem t32f4 : env.fld 32 4 = some (4, 24) := by kernel_rfl
theorem t32f5 : env.fld 32 5 = some (7, 22) := by kernel_rfl
theorem t32f6 : env.fld 32 6 = some (8, 25) := by kernel_rfl
theorem t32f7 : env.fld 32 7 = some (9, 26) := by kernel_rfl
theorem t32f8 : env.fld 32 8 = some (10, 30) := by kernel_rfl
theorem t32ty : env.ty 32 = none := by kernel_rfl
theorem t32agg : env.agg 32 = some true := by kernel_rfl
theorem t32size : env.size 32 = some 12 := by kernel_rfl
theorem t32inf : env.inf 32 = some (12, 192, (.agg #[(.int .i64 0), (.int .i64 0), (.int .i64 0), (.int .i64 0), (.int .i64 0), (.int .i64 0), (.slice none 0 0), (.slice none 0 0), (.slice none 0 0), (.slice none 0 0), (.slice none 0 0), (.slice none 0 0)])) := by kernel_rfl
theorem t34und : env.und 34 = some (.pointer 36) := by kernel_rfl
theorem t34ptr : env.ptr 34 = true := by kernel_rfl
theorem t34ty : env.ty 34 = none := by kernel_rfl
theorem t34agg : env.agg 34 = some false := by kernel_rfl
theorem t34size : env.size 34 = some 1 := by kernel_rfl
theorem t34inf : env.inf 34 = some (1, 8, (.pointer none)) := by kernel_rfl
theorem t35isS : env.isStruct 35 = true := by kernel_rfl
theorem t35f0 : env.fld 35 0 = some (0, 3) := by kernel_rfl
theorem t35seq : env.seq 35 = some 1 := by kernel_rfl
theorem t35ty : env.ty 35 = none := by kernel_rfl
theorem t35agg : env.agg 35 = some true := by kernel_rfl
theorem t35size : env.size 35 = some 1 := by kernel_rfl
theorem t35inf : env.inf 35 = some (1, 8, (.agg #[(.int .i64 0)])) := by kernel_rfl
theorem t36isS : env.isStruct 36 = true := by kernel_rfl
theorem t36f0 : env.fld 36 0 = some (0, 3) := by kernel_rfl
theorem t36seq : env.seq 36 = some 1 := by kernel_rfl
theorem t36ty : env.ty 36 = none := by kernel_rfl
theorem t36agg : env.agg 36 = some true := by kernel_rfl
theorem t36size : env.size 36 = some 1 := by kernel_rfl
theorem t36inf : env.inf 36 = some (1, 8, (.agg #[(.int .i64 0)])) := by kernel_rfl
theorem t38und : env.und 38 = some (.array 40 3) := by kernel_rfl
theorem t38arr : env.arr 38 = some (40, 3) := by kernel_rfl
theorem t38ty : env.ty 38 = none := by kernel_rfl
theorem t38agg : env.agg 38 = some true := by kernel_rfl
theorem t38size : env.size 38 = some 40 := by kernel_rfl
theorem t38inf : env.inf 38 = some (40, 320, (.agg ⟨List.replicate 40 (.int .i64 0)⟩)) := by kernel_rfl
theorem t39und : env.und 39 = some (.array 64 3) := by kernel_rfl
theorem t39arr : env.arr 39 = some (64, 3) := by kernel_rfl
theorem t39ty : env.ty 39 = none := by kernel_rfl
theorem t39agg : env.agg 39 = some true := by kernel_rfl
theorem t39size : env.size 39 = some 64 := by kernel_rfl
theorem t39inf : env.inf 39 = some (64, 512, (.agg ⟨List.replicate 64 (.int .i64 0)⟩)) := by kernel_rfl
theorem t40isS : env.isStruct 40 = true := by kernel_rfl
theorem t40f0 : env.fld 40 0 = some (0, 38) := by kernel_rfl
theorem t40f1 : env.fld 40 1 = some (40, 39) := by kernel_rfl
theorem t40seq : env.seq 40 = some 104 := by kernel_rfl
theorem t40ty : env.ty 40 = none := by kernel_rfl
theorem t40agg : env.agg 40 = some true := by kernel_rfl
theorem t40size : env.size 40 = some 104 := by kernel_rfl
theorem t40inf : env.inf 40 = some (104, 832, (.agg ⟨List.replicate 104 (.int .i64 0)⟩)) := by kernel_rfl
theorem t41isS : env.isStruct 41 = true := by kernel_rfl
theorem t41f0 : env.fld 41 0 = some (0, 38) := by kernel_rfl
theorem t41f1 : env.fld 41 1 = some (40, 39) := by kernel_rfl
theorem t41seq : env.seq 41 = some 104 := by kernel_rfl
theorem t41ty : env.ty 41 = none := by kernel_rfl
theorem t41agg : env.agg 41 = some true := by kernel_rfl
theorem t41size : env.size 41 = some 104 := by kernel_rfl
theorem t41inf : env.inf 41 = some (104, 832, (.agg ⟨List.replicate 104 (.int .i64 0)⟩)) := by kernel_rfl
theorem t42und : env.und 42 = some (.int .i64) := by kernel_rfl
theorem t42kind : env.kind 42 = some .i64 := by kernel_rfl
theorem t42ty : env.ty 42 = none := by kernel_rfl
theorem t42agg : env.agg 42 = some false := by kernel_rfl
theorem t42size : env.size 42 = some 1 := by kernel_rfl
theorem t42inf : env.inf 42 = some (1, 8, (.int .i64 0)) := by kernel_rfl
theorem t45und : env.und 45 = some (.slice 48) := by kernel_rfl
theorem t45noInt : env.noInt 45 = true := by kernel_rfl
theorem t45elt : env.elt 45 = some 48 := by kernel_rfl
theorem t45ty : env.ty 45 = none := by kernel_rfl
theorem t45agg : env.agg 45 = some false := by kernel_rfl
theorem t45size : env.size 45 = some 1 := by kernel_rfl
theorem t45inf : env.inf 45 = some (1, 24, (.slice none 0 0)) := by kernel_rfl
theorem t46und : env.und 46 = some (.slice 81) := by kernel_rfl
theorem t46noInt : env.noInt 46 = true := by kernel_rfl
theorem t46elt : env.elt 46 = some 81 := by kernel_rfl
theorem t46ty : env.ty 46 = none := by kernel_rfl
theorem t46agg : env.agg 46 = some false := by kernel_rfl
theorem t46size : env.size 46 = some 1 := by kernel_rfl
theorem t46inf : env.inf 46 = some (1, 24, (.slice none 0 0)) := by kernel_rfl
theorem t47isS : env.isStruct 47 = true := by kernel_rfl
theorem t47f0 : env.fld 47 0 = some (0, 3) := by kernel_rfl
theorem t47f1 : env.fld 47 1 = some (1, 3) := by kernel_rfl
theorem t47f2 : env.fld 47 2 = some (2, 3) := by kernel_rfl
theorem t47f3 : env.fld 47 3 = some (3, 3) := by kernel_rfl
theorem t47f4 : env.fld 47 4 = some (4, 24) := by kernel_rfl
theorem t47f5 : env.fld 47 5 = some (7, 22) := by kernel_rfl
theorem t47f6 : env.fld 47 6 = some (8, 45) := by kernel_rfl
theorem t47f7 : env.fld 47 7 = some (9, 46) := by kernel_rfl
theorem t47f8 : env.fld 47 8 = some (10, 30) := by kernel_rfl
theorem t47ty : env.ty 47 = none := by kernel_rfl
theorem t47agg : env.agg 47 = some true := by kernel_rfl
theorem t47size : env.size 47 = some 12 := by kernel_rfl
theorem t47inf : env.inf 47 = some (12, 192, (.agg #[(.int .i64 0), (.int .i64 0), (.int .i64 0), (.int .i64 0), (.int .i64 0), (.int .i64 0), (.slice none 0 0), (.slice none 0 0), (.slice none 0 0), (.slice none 0 0), (.slice none 0 0), (.slice none 0 0)])) := by kernel_rfl
theorem t48isS : env.isStruct 48 = true := by kernel_rfl
theorem t48f0 : env.fld 48 0 = some (0, 3) := by kernel_rfl
theorem t48f1 : env.fld 48 1 = some (1, 3) := by kernel_rfl
theorem t48f2 : env.fld 48 2 = some (2, 3) := by kernel_rfl
theorem t48f3 : env.fld 48 3 = some (3, 3) := by kernel_rfl
theorem t48f4 : env.fld 48 4 = some (4, 24) := by kernel_rfl
theorem t48f5 : env.fld 48 5 = some (7, 22) := by kernel_rfl
theorem t48f6 : env.fld 48 6 = some (8, 45) := by kernel_rfl
theorem t48f7 : env.fld 48 7 = some (9, 46) := by kernel_rfl
theorem t48f8 : env.fld 48 8 = some (10, 30) := by kernel_rfl
theorem t48ty : env.ty 48 = none := by kernel_rfl
theorem t48agg : env.agg 48 = some true := by kernel_rfl
theorem t48size : env.size 48 = some 12 := by kernel_rfl
theorem t48inf : env.inf 48 = some (12, 192, (.agg #[(.int .i64 0), (.int .i64 0), (.int .i64 0), (.int .i64 0), (.int .i64 0), (.int .i64 0), (.slice none 0 0), (.slice none 0 0), (.slice none 0 0), (.slice none 0 0), (.slice none 0 0), (.slice none 0 0)])) := by kernel_rfl
theorem t51und : env.und 51 = some (.slice 3) := by kernel_rfl
theorem t51noInt : env.noInt 51 = true := by kernel_rfl
theorem t51elt : env.elt 51 = some 3 := by kernel_rfl
theorem t51ty : env.ty 51 = none := by kernel_rfl
theorem t51agg : env.agg 51 = some false := by kernel_rfl
theorem t51size : env.size 51 = some 1 := by kernel_rfl
theorem t51inf : env.inf 51 = some (1, 24, (.slice none 0 0)) := by kernel_rfl
theorem t53isS : env.isStruct 53 = true := by kernel_rfl
theorem t53f0 : env.fld 53 0 = some (0, 38) := by kernel_rfl
theorem t53f1 : env.fld 53 1 = some (40, 39) := by kernel_rfl
theorem t53seq : env.seq 53 = some 104 := by kernel_rfl
theorem t53ty : env.ty 53 = none := by kernel_rfl
theorem t53agg : env.agg 53 = some true := by kernel_rfl
theorem t53size : env.size 53 = some 104 := by kernel_rfl
theorem t53inf : env.inf 53 = some (104, 832, (.agg ⟨List.replicate 104 (.int .i64 0)⟩)) := by kernel_rfl
theorem t57isS : env.isStruct 57 = true := by kernel_rfl
theorem t57f0 : env.fld 57 0 = some (0, 3) := by kernel_rfl
theorem t57f1 : env.fld 57 1 = some (1, 3) := by kernel_rfl
theorem t57seq : env.seq 57 = some 2 := by kernel_rfl
theorem t57ty : env.ty 57 = none := by kernel_rfl
theorem t57agg : env.agg 57 = some true := by kernel_rfl
theorem t57size : env.size 57 = some 2 := by kernel_rfl
theorem t57inf : env.inf 57 = some (2, 16, (.agg #[(.int .i64 0), (.int .i64 0)])) := by kernel_rfl
theorem t58isS : env.isStruct 58 = true := by kernel_rfl
theorem t58f0 : env.fld 58 0 = some (0, 3) := by kernel_rfl
theorem t58f1 : env.fld 58 1 = some (1, 3) := by kernel_rfl
theorem t58seq : env.seq 58 = some 2 := by kernel_rfl
theorem t58ty : env.ty 58 = none := by kernel_rfl
theorem t58agg : env.agg 58 = some true := by kernel_rfl
theorem t58size : env.size 58 = some 2 := by kernel_rfl
theorem t58inf : env.inf 58 = some (2, 16, (.agg #[(.int .i64 0), (.int .i64 0)])) := by kernel_rfl
theorem t60isS : env.isStruct 60 = true := by kernel_rfl
theorem t60f0 : env.fld 60 0 = some (0, 53) := by kernel_rfl
theorem t60f1 : env.fld 60 1 = some (104, 3) := by kernel_rfl
theorem t60ty : env.ty 60 = none := by kernel_rfl
theorem t60agg : env.agg 60 = some true := by kernel_rfl
theorem t60size : env.size 60 = some 105 := by kernel_rfl
theorem t60inf : env.inf 60 = some (105, 840, (.agg ⟨List.replicate 105 (.int .i64 0)⟩)) := by kernel_rfl
theorem t61isS : env.isStruct 61 = true := by kernel_rfl
theorem t61f0 : env.fld 61 0 = some (0, 53) := by kernel_rfl
theorem t61f1 : env.fld 61 1 = some (104, 3) := by kernel_rfl
theorem t61ty : env.ty 61 = none := by kernel_rfl
theorem t61agg : env.agg 61 = some true := by kernel_rfl
theorem t61size : env.size 61 = some 105 := by kernel_rfl
theorem t61inf : env.inf 61 = some (105, 840, (.agg ⟨List.replicate 105 (.int .i64 0)⟩)) := by kernel_rfl
theorem t73isS : env.isStruct 73 = true := by kernel_rfl
theorem t73f0 : env.fld 73 0 = some (0, 3) := by kernel_rfl
theorem t73f1 : env.fld 73 1 = some (1, 3) := by kernel_rfl
theorem t73f2 : env.fld 73 2 = some (2, 24) := by kernel_rfl
theorem t73ty : env.ty 73 = none := by kernel_rfl
theorem t73agg : env.agg 73 = some true := by kernel_rfl
theorem t73size : env.size 73 = some 5 := by kernel_rfl
theorem t73inf : env.inf 73 = some (5, 56, (.agg #[(.int .i64 0), (.int .i64 0), (.int .i64 0), (.int .i64 0), (.slice none 0 0)])) := by kernel_rfl
theorem t74isS : env.isStruct 74 = true := by kernel_rfl
theorem t74f0 : env.fld 74 0 = some (0, 3) := by kernel_rfl
theorem t74f1 : env.fld 74 1 = some (1, 3) := by kernel_rfl
theorem t74f2 : env.fld 74 2 = some (2, 24) := by kernel_rfl
theorem t74ty : env.ty 74 = none := by kernel_rfl
theorem t74agg : env.agg 74 = some true := by kernel_rfl
theorem t74size : env.size 74 = some 5 := by kernel_rfl
theorem t74inf : env.inf 74 = some (5, 56, (.agg #[(.int .i64 0), (.int .i64 0), (.int .i64 0), (.int .i64 0), (.slice none 0 0)])) := by kernel_rfl
theorem t75isS : env.isStruct 75 = true := by kernel_rfl
theorem t75f0 : env.fld 75 0 = some (0, 3) := by kernel_rfl
theorem t75f1 : env.fld 75 1 = some (1, 3) := by kernel_rfl
theorem t75f2 : env.fld 75 2 = some (2, 4) := by kernel_rfl
theorem t75f3 : env.fld 75 3 = some (3, 24) := by kernel_rfl
theorem t75ty : env.ty 75 = none := by kernel_rfl
theorem t75agg : env.agg 75 = some true := by kernel_rfl
theorem t75size : env.size 75 = some 6 := by kernel_rfl
theorem t75inf : env.inf 75 = some (6, 64, (.agg #[(.int .i64 0), (.int .i64 0), (.bool false), (.int .i64 0), (.int .i64 0), (.slice none 0 0)])) := by kernel_rfl
theorem t76isS : env.isStruct 76 = true := by kernel_rfl
theorem t76f0 : env.fld 76 0 = some (0, 3) := by kernel_rfl
theorem t76f1 : env.fld 76 1 = some (1, 3) := by kernel_rfl
theorem t76f2 : env.fld 76 2 = some (2, 4) := by kernel_rfl
theorem t76f3 : env.fld 76 3 = some (3, 24) := by kernel_rfl
theorem t76ty : env.ty 76 = none := by kernel_rfl
theorem t76agg : env.agg 76 = some true := by kernel_rfl
theorem t76size : env.size 76 = some 6 := by kernel_rfl
theorem t76inf : env.inf 76 = some (6, 64, (.agg #[(.int .i64 0), (.int .i64 0), (.bool false), (.int .i64 0), (.int .i64 0), (.slice none 0 0)])) := by kernel_rfl
theorem t77isS : env.isStruct 77 = true := by kernel_rfl
theorem t77f0 : env.fld 77 0 = some (0, 3) := by kernel_rfl
theorem t77f1 : env.fld 77 1 = some (1, 3) := by kernel_rfl
theorem t77seq : env.seq 77 = some 2 := by kernel_rfl
theorem t77ty : env.ty 77 = none := by kernel_rfl
theorem t77agg : env.agg 77 = some true := by kernel_rfl
theorem t77size : env.size 77 = some 2 := by kernel_rfl
theorem t77inf : env.inf 77 = some (2, 16, (.agg #[(.int .i64 0), (.int .i64 0)])) := by kernel_rfl
theorem t78isS : env.isStruct 78 = true := by kernel_rfl
theorem t78f0 : env.fld 78 0 = some (0, 3) := by kernel_rfl
theorem t78f1 : env.fld 78 1 = some (1, 3) := by kernel_rfl
theorem t78seq : env.seq 78 = some 2 := by kernel_rfl
theorem t78ty : env.ty 78 = none := by kernel_rfl
theorem t78agg : env.agg 78 = some true := by kernel_rfl
theorem t78size : env.size 78 = some 2 := by kernel_rfl
theorem t78inf : env.inf 78 = some (2, 16, (.agg #[(.int .i64 0), (.int .i64 0)])) := by kernel_rfl
theorem t81isS : env.isStruct 81 = true := by kernel_rfl
theorem t81f0 : env.fld 81 0 = some (0, 3) := by kernel_rfl
theorem t81f1 : env.fld 81 1 = some (1, 3) := by kernel_rfl
theorem t81seq : env.seq 81 = some 2 := by kernel_rfl
theorem t81ty : env.ty 81 = none := by kernel_rfl
theorem t81agg : env.agg 81 = some true := by kernel_rfl
theorem t81size : env.size 81 = some 2 := by kernel_rfl
theorem t81inf : env.inf 81 = some (2, 16, (.agg #[(.int .i64 0), (.int .i64 0)])) := by kernel_rfl
theorem t88und : env.und 88 = some (.pointer 41) := by kernel_rfl
theorem t88ptr : env.ptr 88 = true := by kernel_rfl
theorem t88ty : env.ty 88 = none := by kernel_rfl
theorem t88agg : env.agg 88 = some false := by kernel_rfl
theorem t88size : env.size 88 = some 1 := by kernel_rfl
theorem t88inf : env.inf 88 = some (1, 8, (.pointer none)) := by kernel_rfl
theorem t93und : env.und 93 = some (.slice 98) := by kernel_rfl
theorem t93noInt : env.noInt 93 = true := by kernel_rfl
theorem t93elt : env.elt 93 = some 98 := by kernel_rfl
theorem t93ty : env.ty 93 = none := by kernel_rfl
theorem t93agg : env.agg 93 = some false := by kernel_rfl
theorem t93size : env.size 93 = some 1 := by kernel_rfl
theorem t93inf : env.inf 93 = some (1, 24, (.slice none 0 0)) := by kernel_rfl
theorem t96ikey : env.ikey 96 = some 4 := by kernel_rfl
theorem t4zer : env.zer 4 = some (.bool false) := by kernel_rfl
theorem t96ty : env.ty 96 = none := by kernel_rfl
theorem t96agg : env.agg 96 = some false := by kernel_rfl
theorem t96size : env.size 96 = some 1 := by kernel_rfl
theorem t96inf : env.inf 96 = some (1, 8, (.map none)) := by kernel_rfl
theorem t97isS : env.isStruct 97 = true := by kernel_rfl
theorem t97f0 : env.fld 97 0 = some (0, 3) := by kernel_rfl
theorem t97f1 : env.fld 97 1 = some (1, 3) := by kernel_rfl
theorem t97f2 : env.fld 97 2 = some (2, 32) := by kernel_rfl
theorem t97ty : env.ty 97 = none := by kernel_rfl
theorem t97agg : env.agg 97 = some true := by kernel_rfl
theorem t97size : env.size 97 = some 14 := by kernel_rfl
theorem t97inf : env.inf 97 = some (14, 208, (.agg #[(.int .i64 0), (.int .i64 0), (.int .i64 0), (.int .i64 0), (.int .i64 0), (.int .i64 0), (.int .i64 0), (.int .i64 0), (.slice none 0 0), (.slice none 0 0), (.slice none 0 0), (.slice none 0 0), (.slice none 0 0), (.slice none 0 0)])) := by kernel_rfl
theorem t98isS : env.isStruct 98 = true := by kernel_rfl
theorem t98f0 : env.fld 98 0 = some (0, 3) := by kernel_rfl
theorem t98f1 : env.fld 98 1 = some (1, 3) := by kernel_rfl
theorem t98f2 : env.fld 98 2 = some (2, 32) := by kernel_rfl
theorem t98ty : env.ty 98 = none := by kernel_rfl
theorem t98agg : env.agg 98 = some true := by kernel_rfl
theorem t98size : env.size 98 = some 14 := by kernel_rfl
theorem t98inf : env.inf 98 = some (14, 208, (.agg #[(.int .i64 0), (.int .i64 0), (.int .i64 0), (.int .i64 0), (.int .i64 0), (.int .i64 0), (.int .i64 0), (.int .i64 0), (.slice none 0 0), (.slice none 0 0), (.slice none 0 0), (.slice none 0 0), (.slice none 0 0), (.slice none 0 0)])) := by kernel_rfl
theorem t101isS : env.isStruct 101 = true := by kernel_rfl
theorem t101f0 : env.fld 101 0 = some (0, 3) := by kernel_rfl
theorem t101f1 : env.fld 101 1 = some (1, 3) := by kernel_rfl
theorem t101f2 : env.fld 101 2 = some (2, 3) := by kernel_rfl
theorem t101seq : env.seq 101 = some 3 := by kernel_rfl
theorem t101ty : env.ty 101 = none := by kernel_rfl
theorem t101agg : env.agg 101 = some true := by kernel_rfl
theorem t101size : env.size 101 = some 3 := by kernel_rfl
theorem t101inf : env.inf 101 = some (3, 24, (.agg #[(.int .i64 0), (.int .i64 0), (.int .i64 0)])) := by kernel_rfl
theorem t102isS : env.isStruct 102 = true := by kernel_rfl
theorem t102f0 : env.fld 102 0 = some (0, 3) := by kernel_rfl
theorem t102f1 : env.fld 102 1 = some (1, 3) := by kernel_rfl
theorem t102f2 : env.fld 102 2 = some (2, 3) := by kernel_rfl
theorem t102seq : env.seq 102 = some 3 := by kernel_rfl
theorem t102ty : env.ty 102 = none := by kernel_rfl
theorem t102agg : env.agg 102 = some true := by kernel_rfl
theorem t102size : env.size 102 = some 3 := by kernel_rfl
theorem t102inf : env.inf 102 = some (3, 24, (.agg #[(.int .i64 0), (.int .i64 0), (.int .i64 0)])) := by kernel_rfl
theorem t111isS : env.isStruct 111 = true := by kernel_rfl
theorem t111f0 : env.fld 111 0 = some (0, 3) := by kernel_rfl
theorem t111f1 : env.fld 111 1 = some (1, 3) := by kernel_rfl
theorem t111seq : env.seq 111 = some 2 := by kernel_rfl
theorem t111ty : env.ty 111 = none := by kernel_rfl
theorem t111agg : env.agg 111 = some true := by kernel_rfl
theorem t111size : env.size 111 = some 2 := by kernel_rfl
theorem t111inf : env.inf 111 = some (2, 16, (.agg #[(.int .i64 0), (.int .i64 0)])) := by kernel_rfl
theorem t112isS : env.isStruct 112 = true := by kernel_rfl
theorem t112f0 : env.fld 112 0 = some (0, 3) := by kernel_rfl
theorem t112f1 : env.fld 112 1 = some (1, 3) := by kernel_rfl
theorem t112seq : env.seq 112 = some 2 := by kernel_rfl
theorem t112ty : env.ty 112 = none := by kernel_rfl
theorem t112agg : env.agg 112 = some true := by kernel_rfl
theorem t112size : env.size 112 = some 2 := by kernel_rfl
theorem t112inf : env.inf 112 = some (2, 16, (.agg #[(.int .i64 0), (.int .i64 0)])) := by kernel_rfl
theorem t123und : env.und 123 = some (.slice 124) := by kernel_rfl
theorem t123noInt : env.noInt 123 = true := by kernel_rfl
theorem t123elt : env.elt 123 = some 124 := by kernel_rfl
theorem t123ty : env.ty 123 = none := by kernel_rfl
theorem t123agg : env.agg 123 = some false := by kernel_rfl
theorem t123size : env.size 123 = some 1 := by kernel_rfl
theorem t123inf : env.inf 123 = some (1, 24, (.slice none 0 0)) := by kernel_rfl
theorem t124isS : env.isStruct 124 = true := by kernel_rfl
theorem t124f0 : env.fld 124 0 = some (0, 3) := by kernel_rfl
theorem t124f1 : env.fld 124 1 = some (1, 3) := by kernel_rfl
theorem t124seq : env.seq 124 = some 2 := by kernel_rfl
theorem t124ty : env.ty 124 = none := by kernel_rfl
theorem t124agg : env.agg 124 = some true := by kernel_rfl
theorem t124size : env.size 124 = some 2 := by kernel_rfl
theorem t124inf : env.inf 124 = some (2, 16, (.agg #[(.int .i64 0), (.int .i64 0)])) := by kernel_rfl
theorem t132und : env.und 132 = some (.slice 4) := by kernel_rfl
theorem t132noInt : env.noInt 132 = true := by kernel_rfl
theorem t132elt : env.elt 132 = some 4 := by kernel_rfl
theorem t132ty : env.ty 132 = none := by kernel_rfl
theorem t132agg : env.agg 132 = some false := by kernel_rfl
theorem t132size : env.size 132 = some 1 := by kernel_rfl
theorem t132inf : env.inf 132 = some (1, 24, (.slice none 0 0)) := by kernel_rfl
theorem t140und : env.und 140 = some (.slice 141) := by kernel_rfl
theorem t140noInt : env.noInt 140 = true := by kernel_rfl
theorem t140elt : env.elt 140 = some 141 := by kernel_rfl
theorem t140ty : env.ty 140 = none := by kernel_rfl
theorem t140agg : env.agg 140 = some false := by kernel_rfl
theorem t140size : env.size 140 = some 1 := by kernel_rfl
theorem t140inf : env.inf 140 = some (1, 24, (.slice none 0 0)) := by kernel_rfl
theorem t141isS : env.isStruct 141 = true := by kernel_rfl
theorem t141f0 : env.fld 141 0 = some (0, 3) := by kernel_rfl
theorem t141f1 : env.fld 141 1 = some (1, 3) := by kernel_rfl
theorem t141seq : env.seq 141 = some 2 := by kernel_rfl
theorem t141ty : env.ty 141 = none := by kernel_rfl
theorem t141agg : env.agg 141 = some true := by kernel_rfl
theorem t141size : env.size 141 = some 2 := by kernel_rfl
theorem t141inf : env.inf 141 = some (2, 16, (.agg #[(.int .i64 0), (.int .i64 0)])) := by kernel_rfl
theorem t144und : env.und 144 = some (.slice 146) := by kernel_rfl
theorem t144noInt : env.noInt 144 = true := by kernel_rfl
theorem t144elt : env.elt 144 = some 146 := by kernel_rfl
theorem t144ty : env.ty 144 = none := by kernel_rfl
theorem t144agg : env.agg 144 = some false := by kernel_rfl
theorem t144size : env.size 144 = some 1 := by kernel_rfl
theorem t144inf : env.inf 144 = some (1, 24, (.slice none 0 0)) := by kernel_rfl
theorem t146isS : env.isStruct 146 = true := by kernel_rfl
theorem t146f0 : env.fld 146 0 = some (0, 3) := by kernel_rfl
theorem t146f1 : env.fld 146 1 = some (1, 3) := by kernel_rfl
theorem t146seq : env.seq 146 = some 2 := by kernel_rfl
theorem t146ty : env.ty 146 = none := by kernel_rfl
theorem t146agg : env.agg 146 = some true := by kernel_rfl
theorem t146size : env.size 146 = some 2 := by kernel_rfl
theorem t146inf : env.inf 146 = some (2, 16, (.agg #[(.int .i64 0), (.int .i64 0)])) := by kernel_rfl
theorem t156isS : env.isStruct 156 = true := by kernel_rfl
theorem t156f0 : env.fld 156 0 = some (0, 9) := by kernel_rfl
theorem t156f1 : env.fld 156 1 = some (1, 3) := by kernel_rfl
theorem t156f2 : env.fld 156 2 = some (2, 3) := by kernel_rfl
theorem t156f3 : env.fld 156 3 = some (3, 3) := by kernel_rfl
theorem t156ty : env.ty 156 = none := by kernel_rfl
theorem t156agg : env.agg 156 = some true := by kernel_rfl
theorem t156size : env.size 156 = some 4 := by kernel_rfl
theorem t156inf : env.inf 156 = some (4, 40, (.agg #[(.string ⟨#[]⟩), (.int .i64 0), (.int .i64 0), (.int .i64 0)])) := by kernel_rfl
theorem t157isS : env.isStruct 157 = true := by kernel_rfl
theorem t157f0 : env.fld 157 0 = some (0, 9) := by kernel_rfl
theorem t157f1 : env.fld 157 1 = some (1, 3) := by kernel_rfl
theorem t157f2 : env.fld 157 2 = some (2, 3) := by kernel_rfl
theorem t157f3 : env.fld 157 3 = some (3, 3) := by kernel_rfl
theorem t157ty : env.ty 157 = none := by kernel_rfl
theorem t157agg : env.agg 157 = some true := by kernel_rfl
theorem t157size : env.size 157 = some 4 := by kernel_rfl
theorem t157inf : env.inf 157 = some (4, 40, (.agg #[(.string ⟨#[]⟩), (.int .i64 0), (.int .i64 0), (.int .i64 0)])) := by kernel_rfl
theorem t158und : env.und 158 = some (.array 15 157) := by kernel_rfl
theorem t158arr : env.arr 158 = some (15, 157) := by kernel_rfl
theorem t158ty : env.ty 158 = none := by kernel_rfl
theorem t158agg : env.agg 158 = some true := by kernel_rfl
theorem t158size : env.size 158 = some 60 := by kernel_rfl
theorem t158inf : env.inf 158 = some (60, 600, (.agg #[(.string ⟨#[]⟩), (.int .i64 0), (.int .i64 0), (.int .i64 0), (.string ⟨#[]⟩), (.int .i64 0), (.int .i64 0), (.int .i64 0), (.string ⟨#[]⟩), (.int .i64 0), (.int .i64 0), (.int .i64 0), (.string ⟨#[]⟩), (.int .i64 0), (.int .i64 0), (.int .i64 0), (.string ⟨#[]⟩), (.int .i64 0), (.int .i64 0), (.int .i64 0), (.string ⟨#[]⟩), (.int .i64 0), (.int .i64 0), (.int .i64 0), (.string ⟨#[]⟩), (.int .i64 0), (.int .i64 0), (.int .i64 0), (.string ⟨#[]⟩), (.int .i64 0), (.int .i64 0), (.int .i64 0), (.string ⟨#[]⟩), (.int .i64 0), (.int .i64 0), (.int .i64 0), (.string ⟨#[]⟩), (.int .i64 0), (.int .i64 0), (.int .i64 0), (.string ⟨#[]⟩), (.int .i64 0), (.int .i64 0), (.int .i64 0), (.string ⟨#[]⟩), (.int .i64 0), (.int .i64 0), (.int .i64 0), (.string ⟨#[]⟩), (.int .i64 0), (.int .i64 0), (.int .i64 0), (.string ⟨#[]⟩), (.int .i64 0), (.int .i64 0), (.int .i64 0), (.string ⟨#[]⟩), (.int .i64 0), (.int .i64 0), (.int .i64 0)])) := by kernel_rfl
theorem t175und : env.und 175 = some (.int .u32) := by kernel_rfl
theorem t175kind : env.kind 175 = some .u32 := by kernel_rfl
theorem t175ty : env.ty 175 = none := by kernel_rfl
theorem t175agg : env.agg 175 = some false := by kernel_rfl
theorem t175size : env.size 175 = some 1 := by kernel_rfl
theorem t175inf : env.inf 175 = some (1, 4, (.int .u32 0)) := by kernel_rfl
theorem t179und : env.und 179 = some (.pointer 5) := by kernel_rfl
theorem t179ptr : env.ptr 179 = true := by kernel_rfl
theorem t179ty : env.ty 179 = none := by kernel_rfl
theorem t179agg : env.agg 179 = some false := by kernel_rfl
theorem t179size : env.size 179 = some 1 := by kernel_rfl
theorem t179inf : env.inf 179 = some (1, 8, (.pointer none)) := by kernel_rfl
attribute [go_sem] t2und t2kind t2ty t2agg t2size t2inf t3und t3kind t3ty t3agg t3size t3inf t4und t4bln t4ty t4agg t4size t4inf t5und t5kind t5ty t5agg t5size t5inf t9und t9str t9noInt t9ty t9agg t9size t9inf t12und t12kind t12ty t12agg t12size t12inf t13isS t13f0 t13f1 t13ty t13agg t13size t13inf t21und t21kind t21ty t21agg t21size t21inf t22und t22noInt t22elt t22ty t22agg t22size t22inf t23isS t23f0 t23f1 t23f2 t23ty t23agg t23size t23inf t24isS t24f0 t24f1 t24f2 t24ty t24agg t24size t24inf t25und t25noInt t25elt t25ty t25agg t25size t25inf t26und t26noInt t26elt t26ty t26agg t26size t26inf t27und t27noInt t27elt t27ty t27agg t27size t27inf t28und t28noInt t28elt t28ty t28agg t28size t28inf t29isS t29f0 t29f1 t29ty t29agg t29size t29inf t30isS t30f0 t30f1 t30ty t30agg t30size t30inf t31isS t31f0 t31f1 t31f2 t31f3 t31f4 t31f5 t31f6 t31f7 t31f8 t31ty t31agg t31size t31inf t32isS t32f0 t32f1 t32f2 t32f3 t32f4 t32f5 t32f6 t32f7 t32f8 t32ty t32agg t32size t32inf t34und t34ptr t34ty t34agg t34size t34inf t35isS t35f0 t35seq t35ty t35agg t35size t35inf t36isS t36f0 t36seq t36ty t36agg t36size t36inf t38und t38arr t38ty t38agg t38size t38inf t39und t39arr t39ty t39agg t39size t39inf t40isS t40f0 t40f1 t40seq t40ty t40agg t40size t40inf t41isS t41f0 t41f1 t41seq t41ty t41agg t41size t41inf t42und t42kind t42ty t42agg t42size t42inf t45und t45noInt t45elt t45ty t45agg t45size t45inf t46und t46noInt t46elt t46ty t46agg t46size t46inf t47isS t47f0 t47f1 t47f2 t47f3 t47f4 t47f5 t47f6 t47f7 t47f8 t47ty t47agg t47size t47inf t48isS t48f0 t48f1 t48f2 t48f3 t48f4 t48f5 t48f6 t48f7 t48f8 t48ty t48agg t48size t48inf t51und t51noInt t51elt t51ty t51agg t51size t51inf t53isS t53f0 t53f1 t53seq t53ty t53agg t53size t53inf t57isS t57f0 t57f1 t57seq t57ty t57agg t57size t57inf t58isS t58f0 t58f1 t58seq t58ty t58agg t58size t58inf t60isS t60f0 t60f1 t60ty t60agg t60size t60inf t61isS t61f0 t61f1 t61ty t61agg t61size t61inf t73isS t73f0 t73f1 t73f2 t73ty t73agg t73size t73inf t74isS t74f0 t74f1 t74f2 t74ty t74agg t74size t74inf t75isS t75f0 t75f1 t75f2 t75f3 t75ty t75agg t75size t75inf t76isS t76f0 t76f1 t76f2 t76f3 t76ty t76agg t76size t76inf t77isS t77f0 t77f1 t77seq t77ty t77agg t77size t77inf t78isS t78f0 t78f1 t78seq t78ty t78agg t78size t78inf t81isS t81f0 t81f1 t81seq t81ty t81agg t81size t81inf t88und t88ptr t88ty t88agg t88size t88inf t93und t93noInt t93elt t93ty t93agg t93size t93inf t96ikey t4zer t96ty t96agg t96size t96inf t97isS t97f0 t97f1 t97f2 t97ty t97agg t97size t97inf t98isS t98f0 t98f1 t98f2 t98ty t98agg t98size t98inf t101isS t101f0 t101f1 t101f2 t101seq t101ty t101agg t101size t101inf t102isS t102f0 t102f1 t102f2 t102seq t102ty t102agg t102size t102inf t111isS t111f0 t111f1 t111seq t111ty t111agg t111size t111inf t112isS t112f0 t112f1 t112seq t112ty t112agg t112size t112inf t123und t123noInt t123elt t123ty t123agg t123size t123inf t124isS t124f0 t124f1 t124seq t124ty t124agg t124size t124inf t132und t132noInt t132elt t132ty t132agg t132size t132inf t140und t140noInt t140elt t140ty t140agg t140size t140inf t141isS t141f0 t141f1 t141seq t141ty t141agg t141size t141inf t144und t144noInt t144elt t144ty t144agg t144size t144inf t146isS t146f0 t146f1 t146seq t146ty t146agg t146size t146inf t156isS t156f0 t156f1 t156f2 t156f3 t156ty t156agg t156size t156inf t157isS t157f0 t157f1 t157f2 t157f3 t157ty t157agg t157size t157inf t158und t158arr t158ty t158agg t158size t158inf t175und t175kind t175ty t175agg t175size t175inf t179und t179ptr t179ty t179agg t179size t179inf
end Go.Eng
open Go Go.Proofs
namespace Go.Eng
set_option linter.unusedSimpArgs false
set_option linter.unusedVariables false
set_option maxRecDepth 10000
set_option maxHeartbeats 4000000
mutual
def largeT : T → Int → Int → Bool × Int
  | .mk _ _ k, r, d => if r - 1 < 0 ∨ d > 30 ∨ k.length > 20 then (true, r - 1) else largeTs k (r - 1) (d + 1)
def largeTs : List T → Int → Int → Bool × Int
  | [], r, _ => (false, r)
  | t :: l, r, d => if (largeT t r d).1 = true then (true, (largeT t r d).2) else largeTs l (largeT t r d).2 d
end
theorem largeT_eq (t : T) (r d : Int) : largeT t r d = if r - 1 < 0 ∨ d > 30 ∨ t.kids.length > 20 then (true, r - 1) else largeTs t.kids (r - 1) (d + 1) := by
  cases t with | mk o n k => rw [largeT]; rfl
mutual
theorem largeT_le : ∀ (t : T) (r d : Int), (largeT t r d).2 ≤ r - 1 ∧ (r - (largeT t r d).2 ≤ 1 + max r 0) ∧ ((largeT t r d).1 = false → 0 ≤ (largeT t r d).2 ∧ (t.size : Int) ≤ r - (largeT t r d).2)
  | .mk o n k, r, d => by
    rw [largeT]
    split
    · refine ⟨by simp, by simp only; omega, by simp⟩
    · have := largeTs_le k (r - 1) (d + 1)
      refine ⟨by omega, by omega, fun h => ?_⟩
      have h2 := this.2.2 h
      simp only [T.size]
      omega
theorem largeTs_le : ∀ (l : List T) (r d : Int), (largeTs l r d).2 ≤ r ∧ (r - (largeTs l r d).2 ≤ 1 + max r 0) ∧ ((largeTs l r d).1 = false → (0 ≤ r → 0 ≤ (largeTs l r d).2) ∧ (T.sizes l : Int) ≤ r - (largeTs l r d).2)
  | [], r, d => by simp [largeTs, T.sizes]; omega
  | t :: l, r, d => by
    rw [largeTs]
    have h1 := largeT_le t r d
    split
    · refine ⟨by simp only; omega, by simp only; omega, by simp⟩
    · rename_i hf
      have h2 := largeTs_le l (largeT t r d).2 d
      have h3 := h1.2.2 (by simpa using hf)
      refine ⟨by omega, by omega, fun h => ?_⟩
      have h4 := h2.2.2 h
      simp only [T.sizes]
      omega
end

theorem lt_ok (t : T) (r d : Int) (hr : -4611686018427387904 < r) (hr2 : r < 4611686018427387904) (hd : 0 ≤ d) (hd2 : d ≤ 41) : AFn env 23 [t.a, P0, aI d] [some (.box [.d (dI r)])] (aB (largeT t r d).1) [some (.box [.d (dI (largeT t r d).2)])] := by
  generalize hn : t.size = n
  induction n using Nat.strongRecOn generalizing t r d with
  | _ n ih0 =>
    have ih : ∀ k r d, k.size < t.size → -4611686018427387904 < r → r < 4611686018427387904 → 0 ≤ d → d ≤ 41 → AFn env 23 [k.a, P0, aI d] [some (.box [.d (dI r)])] (aB (largeT k r d).1) [some (.box [.d (dI (largeT k r d).2)])] := fun k r d h h2 h3 h4 h5 => ih0 k.size (by omega) k r d h2 h3 h4 h5 rfl
    refine afn_body Tryz.func23 rfl (by decide) ?_
    simp only [Tryz.ntmps23, Tryz.results23, List.length_cons, List.length_nil, List.cons_append, List.nil_append, Nat.reduceAdd, Nat.reduceSub, List.replicate]
    refine awp_seq ?_
    refine awp_region ?_
    refine zT ?_
    repeat' first
    | with_reducible refine awp_seq ?_
    | ((with_reducible refine awp_region ?_); refine zS ?_)
    | ((with_reducible refine Gd_nd ?_ ?_) <;> intro hb hb2 <;> first | contradiction | (exfalso; omega) | (refine zH hb2 ?_; try clear hb2))
    | ((with_reducible refine AWP_c ?_); refine zcdT ?_)
    | ((with_reducible refine AWP_c ?_); refine zcdD ?_ ?_ <;> intro hb hb2 <;> first | contradiction | (exfalso; omega) | ((try refine zH hb2 ?_); try clear hb2))
    | ((with_reducible refine awp_ret ?_); refine fin_q ?_ ?_)
    | ((with_reducible refine awp_skip ?_); refine zS ?_)
    · rw [largeT_eq, if_pos (by omega)]
    · rw [largeT_eq, if_pos (by omega)]
    rotate_left
    · rw [largeT_eq, if_pos (by omega)]
    · rw [largeT_eq, if_pos (by omega)]
    · rw [largeT_eq, if_pos (by omega)]
    · rw [largeT_eq, if_pos (by omega)]
    refine awp_block ?_
    refine awp_loopT (fun s : Nat × Int => s.1 ≤ t.kids.length ∧ 0 ≤ s.2 ∧ s.2 ≤ r - 1 ∧ largeT t r d = largeTs (t.kids.drop s.1) s.2 (d + 1)) (fun s => t.kids.length - s.1) (fun s => [(35, aI s.1)])
      (fun s => [some (.box [.d (dI s.2)]), some (.box [.d (dI t.op), .d (dI t.n), .d (.fz (t.kids.map T.row))])]) (0, r - 1) ⟨by simp, by simp only; omega, by simp only; omega, by rw [largeT_eq, if_neg (by omega)]; rfl⟩ (by exact zwl) ?_
    rintro ⟨i, r1⟩ ⟨h1, h2, h3, h4⟩
    simp only at h1 h2 h3 h4
    refine zT ?_
    repeat' first
    | with_reducible refine awp_seq ?_
    | ((with_reducible refine awp_region ?_); refine zS ?_)
    | ((with_reducible refine AWP_c ?_); refine zcdD ?_ ?_ <;> intro hb hb2 <;> first | contradiction | (exfalso; omega) | ((try refine zH hb2 ?_); try clear hb2))
    | ((with_reducible refine AWP_c ?_); refine zcdB ?_ ?_ <;> intro hb <;> first | contradiction | (try refine zH hb ?_))
    | ((with_reducible refine awp_ret ?_); refine fin_q ?_ ?_)
    | ((with_reducible refine awp_skip ?_); refine zS ?_)
    | with_reducible refine awp_block ?_
    | ((with_reducible refine awp_exit ?_); refine zS ?_)
    | ((with_reducible refine CallK_id ?_); refine zcT [0] ?_; refine ⟨_, _, by first | exact ih (gt t.kids i) _ _ (T.size_lt (gt_mem (by omega))) (by omega) (by omega) (by omega) (by omega) | fail, ?_⟩; try refine zS ?_)
    all_goals first
      | (have hi : i = t.kids.length := by omega
         subst hi
         rw [h4, List.drop_length, largeTs])
      | (have hi : i < t.kids.length := by omega
         have hl := ‹(largeT (gt t.kids i) r1 (d + 1)).1 = true›
         rw [h4, drop_gt hi, largeTs, if_pos hl])
      | (have hi : i < t.kids.length := by omega
         have hl := ‹(largeT (gt t.kids i) r1 (d + 1)).1 = false›
         have hq := largeT_le (gt t.kids i) r1 (d + 1)
         have hq2 := hq.2.2 hl
         exact ⟨(i + 1, (largeT (gt t.kids i) r1 (d + 1)).2), ⟨by simp only; omega, by simp only; omega, by simp only; omega, by rw [h4, drop_gt hi, largeTs, if_neg (by simp [hl])]⟩, by simp only; omega, (by exact zwc 2)⟩)
      | trace_state
def thenL (p : Bool × Int) (f : Int → Bool × Int) : Bool × Int := if p.1 = true then (true, p.2) else f p.2
theorem thenL_t {p : Bool × Int} {f : Int → Bool × Int} (h : p.1 = true) : thenL p f = (true, p.2) := if_pos h
theorem thenL_f {p : Bool × Int} {f : Int → Bool × Int} (h : p.1 = false) : thenL p f = f p.2 := if_neg (by simp [h])
mutual
def largeB : B → Int → Int → Bool × Int
  | .mk _ _ _ _ t c ks l ns fs, r, d =>
    if r - 1 < 0 ∨ d > 30 ∨ ks.length > 100 ∨ l.length > 60 ∨ c.length > 100 ∨ ns.length > 30 ∨ fs.length > 50 then (true, r - 1) else
    thenL (largeT t (r - 1) 1) fun r => thenL (largeTs c r 1) fun r => thenL (largeTs (ns.map Nd.t) r 1) fun r => thenL (largeTs (fs.map Fl.t) r 1) fun r => largeBs ks r (d + 1)
def largeBs : List B → Int → Int → Bool × Int
  | [], r, _ => (false, r)
  | t :: l, r, d => thenL (largeB t r d) fun r => largeBs l r d
end
theorem largeB_eq (b : B) (r d : Int) : largeB b r d = if r - 1 < 0 ∨ d > 30 ∨ b.kids.length > 100 ∨ b.links.length > 60 ∨ b.conds.length > 100 ∨ b.nodes.length > 30 ∨ b.flows.length > 50 then (true, r - 1) else
    thenL (largeT b.t (r - 1) 1) fun r => thenL (largeTs b.conds r 1) fun r => thenL (largeTs (b.nodes.map Nd.t) r 1) fun r => thenL (largeTs (b.flows.map Fl.t) r 1) fun r => largeBs b.kids r (d + 1) := by
  cases b with | mk => rw [largeB]; rfl
theorem sizes_nd : ∀ l : List Nd, T.sizes (l.map Nd.t) = Nd.sizes l
  | [] => rfl
  | d :: l => by simp only [List.map_cons, T.sizes, Nd.sizes, sizes_nd l]
theorem sizes_fl : ∀ l : List Fl, T.sizes (l.map Fl.t) = Fl.sizes l
  | [] => rfl
  | d :: l => by simp only [List.map_cons, T.sizes, Fl.sizes, sizes_fl l]
mutual
theorem largeB_le : ∀ (b : B) (r d : Int), (largeB b r d).2 ≤ r - 1 ∧ (r - (largeB b r d).2 ≤ 1 + max r 0) ∧ ((largeB b r d).1 = false → 0 ≤ (largeB b r d).2 ∧ (b.size : Int) ≤ 61 * (r - (largeB b r d).2))
  | .mk k n x y t c ks l ns fs, r, d => by
    rw [largeB]
    have h1 := largeT_le t (r - 1) 1
    have h2 := largeTs_le c (largeT t (r - 1) 1).2 1
    have h3 := largeTs_le (ns.map Nd.t) (largeTs c (largeT t (r - 1) 1).2 1).2 1
    have h4 := largeTs_le (fs.map Fl.t) (largeTs (ns.map Nd.t) (largeTs c (largeT t (r - 1) 1).2 1).2 1).2 1
    have h5 := largeBs_le ks (largeTs (fs.map Fl.t) (largeTs (ns.map Nd.t) (largeTs c (largeT t (r - 1) 1).2 1).2 1).2 1).2 (d + 1)
    rw [sizes_nd] at h3
    rw [sizes_fl] at h4
    by_cases g0 : r - 1 < 0 ∨ d > 30 ∨ ks.length > 100 ∨ l.length > 60 ∨ c.length > 100 ∨ ns.length > 30 ∨ fs.length > 50
    · rw [if_pos g0]
      refine ⟨by simp, by simp only; omega, by simp⟩
    rw [if_neg g0]
    rcases Bool.eq_false_or_eq_true (largeT t (r - 1) 1).1 with g1 | g1
    · rw [thenL_t g1]; refine ⟨by simp only; omega, by simp only; omega, by simp⟩
    rw [thenL_f g1]
    have k1 := h1.2.2 g1
    rcases Bool.eq_false_or_eq_true (largeTs c (largeT t (r - 1) 1).2 1).1 with g2 | g2
    · rw [thenL_t g2]; refine ⟨by simp only; omega, by simp only; omega, by simp⟩
    rw [thenL_f g2]
    have k2 := h2.2.2 g2
    rcases Bool.eq_false_or_eq_true (largeTs (ns.map Nd.t) (largeTs c (largeT t (r - 1) 1).2 1).2 1).1 with g3 | g3
    · rw [thenL_t g3]; refine ⟨by simp only; omega, by simp only; omega, by simp⟩
    rw [thenL_f g3]
    have k3 := h3.2.2 g3
    rcases Bool.eq_false_or_eq_true (largeTs (fs.map Fl.t) (largeTs (ns.map Nd.t) (largeTs c (largeT t (r - 1) 1).2 1).2 1).2 1).1 with g4 | g4
    · rw [thenL_t g4]; refine ⟨by simp only; omega, by simp only; omega, by simp⟩
    rw [thenL_f g4]
    have k4 := h4.2.2 g4
    refine ⟨by omega, by omega, fun h => ?_⟩
    have k5 := h5.2.2 h
    simp only [B.size]
    omega
theorem largeBs_le : ∀ (l : List B) (r d : Int), (largeBs l r d).2 ≤ r ∧ (r - (largeBs l r d).2 ≤ 1 + max r 0) ∧ ((largeBs l r d).1 = false → (0 ≤ r → 0 ≤ (largeBs l r d).2) ∧ (B.sizes l : Int) ≤ 61 * (r - (largeBs l r d).2))
  | [], r, d => by simp [largeBs, B.sizes]; omega
  | t :: l, r, d => by
    rw [largeBs]
    have h1 := largeB_le t r d
    rcases Bool.eq_false_or_eq_true (largeB t r d).1 with g1 | g1
    · rw [thenL_t g1]; refine ⟨by simp only; omega, by simp only; omega, by simp⟩
    rw [thenL_f g1]
    have h2 := largeBs_le l (largeB t r d).2 d
    have h3 := h1.2.2 g1
    refine ⟨by omega, by omega, fun h => ?_⟩
    have h4 := h2.2.2 h
    simp only [B.sizes]
    omega
end
end Go.Eng
open Go Go.Proofs
namespace Go.Eng
set_option linter.unusedSimpArgs false
set_option linter.unusedVariables false
set_option maxRecDepth 10000
set_option maxHeartbeats 4000000

def K4 (b : B) (d : Int) : Int → Bool × Int := fun r => largeBs b.kids r (d + 1)
def K3 (b : B) (d : Int) : Int → Bool × Int := fun r => thenL (largeTs (b.flows.map Fl.t) r 1) (K4 b d)
def K2 (b : B) (d : Int) : Int → Bool × Int := fun r => thenL (largeTs (b.nodes.map Nd.t) r 1) (K3 b d)
def K1 (b : B) (d : Int) : Int → Bool × Int := fun r => thenL (largeTs b.conds r 1) (K2 b d)
theorem largeB_k (b : B) (r d : Int) : largeB b r d = if r - 1 < 0 ∨ d > 30 ∨ b.kids.length > 100 ∨ b.links.length > 60 ∨ b.conds.length > 100 ∨ b.nodes.length > 30 ∨ b.flows.length > 50 then (true, r - 1) else
    thenL (largeT b.t (r - 1) 1) (K1 b d) := largeB_eq b r d
theorem lTs_t {t : T} {l : List T} {r d : Int} {f : Int → Bool × Int} (h : (largeT t r d).1 = true) : thenL (largeTs (t :: l) r d) f = (true, (largeT t r d).2) := by rw [largeTs, if_pos h, thenL_t rfl]
theorem lTs_f {t : T} {l : List T} {r d : Int} {f : Int → Bool × Int} (h : (largeT t r d).1 = false) : thenL (largeTs (t :: l) r d) f = thenL (largeTs l (largeT t r d).2 d) f := by rw [largeTs, if_neg (by simp [h])]
theorem lTs_n {r d : Int} {f : Int → Bool × Int} : thenL (largeTs [] r d) f = f r := by rw [largeTs, thenL_f rfl]
set_option maxHeartbeats 40000000
theorem largeB_ok0 (b : B) (r d : Int) (hr : -4611686018427387904 < r) (hr2 : r < 4611686018427387904) (hd : 0 ≤ d) (hd2 : d ≤ 41) 
   (ih : ∀ k r d, k.size < b.size → -4611686018427387904 < r → r < 4611686018427387904 → 0 ≤ d → d ≤ 41 → AFn env 7 [k.a, P0, aI d] [some (.box [.d (dI r)])] (aB (largeB k r d).1) [some (.box [.d (dI (largeB k r d).2)])]) :
    AFn env 7 [b.a, P0, aI d] [some (.box [.d (dI r)])] (aB (largeB b r d).1) [some (.box [.d (dI (largeB b r d).2)])] := by
    refine afn_body Tryz.func7 rfl (by decide) ?_
    simp only [Tryz.ntmps7, Tryz.results7, List.length_cons, List.length_nil, List.cons_append, List.nil_append, Nat.reduceAdd, Nat.reduceSub, List.replicate]
    refine awp_seq ?_
    refine awp_region ?_
    refine zT ?_
    repeat' first
    | with_reducible refine awp_seq ?_
    | ((with_reducible refine awp_region ?_); refine zS ?_)
    | ((with_reducible refine Gd_nd ?_ ?_) <;> intro hb hb2 <;> first | contradiction | (exfalso; omega) | (refine zH hb2 ?_; try clear hb2))
    | ((with_reducible refine AWP_c ?_); refine zcdT ?_)
    | ((with_reducible refine AWP_c ?_); refine zcdB ?_ ?_ <;> intro hb <;> first | contradiction | (try refine zH hb ?_))
    | ((with_reducible refine awp_ret ?_); refine fin_q ?_ ?_)
    | ((with_reducible refine awp_skip ?_); refine zS ?_)
    | ((with_reducible refine CallK_id ?_); refine zcT [0] ?_; refine ⟨_, _, by first | exact lt_ok b.t (r - 1) 1 (by omega) (by omega) (by omega) (by omega) | fail, ?_⟩; try refine zS ?_)
    all_goals first
      | (rw [largeB_k, if_pos (by omega)]; done)
      | (rw [largeB_k, if_neg (by omega), thenL_t ‹_ = true›]; done)
      | skip
    have h0 : largeB b r d = K1 b d (largeT b.t (r - 1) 1).2 := by rw [largeB_k, if_neg (by omega), thenL_f ‹_ = false›]
    have hq := largeT_le b.t (r - 1) 1
    have hq2 := hq.2.2 ‹_ = false›
    refine awp_block ?_
    refine awp_loopT (fun s : Nat × Int => s.1 ≤ b.conds.length ∧ 0 ≤ s.2 ∧ s.2 ≤ r - 1 ∧ largeB b r d = thenL (largeTs (b.conds.drop s.1) s.2 1) (K2 b d)) (fun s => b.conds.length - s.1) (fun s => [(73, aI s.1)])
      (fun s => [some (.box [.d (dI s.2)]), some (.box b.bs)]) (0, (largeT b.t (r - 1) 1).2) ⟨by simp, by simp only; omega, by simp only; omega, by rw [h0]; rfl⟩ (wk_le (by simp only [go_sem, Bool.not_not, List.mem_singleton, forall_eq, ↓reduceIte, if_pos, rowsAt_map, wrap64, wrapu8, List.getElem?_cons_zero, List.getElem?_cons_succ, Int.reduceToNat, Nat.reduceAdd, Nat.reduceBEq, Bool.or_false, Bool.false_or, Bool.true_or, Nat.reduceSub, Nat.reduceMul, Int.reduceAdd, Int.reduceEq, Int.reduceLT, Int.reduceLE, Int.reduceNeg, Nat.reduceLT, Nat.reduceLeDiff, Nat.reduceEqDiff, B.bs]; simp) (by simp only [go_sem, Bool.not_not, List.mem_singleton, forall_eq, ↓reduceIte, if_pos, rowsAt_map, wrap64, wrapu8, List.getElem?_cons_zero, List.getElem?_cons_succ, Int.reduceToNat, Nat.reduceAdd, Nat.reduceBEq, Bool.or_false, Bool.false_or, Bool.true_or, Nat.reduceSub, Nat.reduceMul, Int.reduceAdd, Int.reduceEq, Int.reduceLT, Int.reduceLE, Int.reduceNeg, Nat.reduceLT, Nat.reduceLeDiff, Nat.reduceEqDiff, B.bs])) ?_
    rintro ⟨i, r1⟩ ⟨h1, h2, h3, h4⟩
    simp only at h1 h2 h3 h4
    clear hq hq2 h0
    simp only [go_sem, Bool.not_not, List.mem_singleton, forall_eq, ↓reduceIte, if_pos, rowsAt_map, wrap64, wrapu8, List.getElem?_cons_zero, List.getElem?_cons_succ, Int.reduceToNat, Nat.reduceAdd, Nat.reduceBEq, Bool.or_false, Bool.false_or, Bool.true_or, Nat.reduceSub, Nat.reduceMul, Int.reduceAdd, Int.reduceEq, Int.reduceLT, Int.reduceLE, Int.reduceNeg, Nat.reduceLT, Nat.reduceLeDiff, Nat.reduceEqDiff, B.bs]
    repeat' first
    | with_reducible refine awp_seq ?_
    | ((with_reducible refine awp_region ?_); refine zS ?_)
    | ((with_reducible refine AWP_c ?_); refine zcdD ?_ ?_ <;> intro hb hb2 <;> first | contradiction | (exfalso; omega) | ((try refine zH hb2 ?_); try clear hb2))
    | ((with_reducible refine AWP_c ?_); refine zcdB ?_ ?_ <;> intro hb <;> first | contradiction | (try refine zH hb ?_))
    | ((with_reducible refine awp_ret ?_); refine fin_q ?_ ?_)
    | ((with_reducible refine awp_skip ?_); refine zS ?_)
    | with_reducible refine awp_block ?_
    | ((with_reducible refine awp_exit ?_); refine zS ?_)
    | ((with_reducible refine CallK_id ?_); refine zcT [0] ?_; refine ⟨_, _, by first | exact lt_ok (gt b.conds i) r1 1 (by omega) (by omega) (by omega) (by omega) | fail, ?_⟩; try refine zS ?_)
    · have hi : i < b.conds.length := by omega
      rw [h4, drop_gt hi, lTs_t ‹_ = true›]
    · have hi : i < b.conds.length := by omega
      rw [h4, drop_gt hi, lTs_t ‹_ = true›]
    · have hi : i < b.conds.length := by omega
      have hl := ‹(largeT (gt b.conds i) r1 1).1 = false›
      have hq := largeT_le (gt b.conds i) r1 1
      have hq2 := hq.2.2 hl
      exact ⟨(i + 1, (largeT (gt b.conds i) r1 1).2), ⟨by simp only; omega, by simp only; omega, by simp only; omega, by rw [h4, drop_gt hi, lTs_f ‹_ = false›]⟩, by simp only; omega, wk_cl 2 (by decide) (by simp) (by simp only [go_sem, Bool.not_not, List.mem_singleton, forall_eq, ↓reduceIte, if_pos, rowsAt_map, wrap64, wrapu8, List.getElem?_cons_zero, List.getElem?_cons_succ, Int.reduceToNat, Nat.reduceAdd, Nat.reduceBEq, Bool.or_false, Bool.false_or, Bool.true_or, Nat.reduceSub, Nat.reduceMul, Int.reduceAdd, Int.reduceEq, Int.reduceLT, Int.reduceLE, Int.reduceNeg, Nat.reduceLT, Nat.reduceLeDiff, Nat.reduceEqDiff]; simp) (by simp only [go_sem, Bool.not_not, List.mem_singleton, forall_eq, ↓reduceIte, if_pos, rowsAt_map, wrap64, wrapu8, List.getElem?_cons_zero, List.getElem?_cons_succ, Int.reduceToNat, Nat.reduceAdd, Nat.reduceBEq, Bool.or_false, Bool.false_or, Bool.true_or, Nat.reduceSub, Nat.reduceMul, Int.reduceAdd, Int.reduceEq, Int.reduceLT, Int.reduceLE, Int.reduceNeg, Nat.reduceLT, Nat.reduceLeDiff, Nat.reduceEqDiff, B.bs])⟩
    have h0 : largeB b r d = K2 b d r1 := by
      have hi : i = b.conds.length := by omega
      subst hi
      rw [h4, List.drop_length, lTs_n]
    refine awp_loopT (fun s : Nat × Int => s.1 ≤ b.nodes.length ∧ 0 ≤ s.2 ∧ s.2 ≤ r - 1 ∧ largeB b r d = thenL (largeTs ((b.nodes.drop s.1).map Nd.t) s.2 1) (K3 b d)) (fun s => b.nodes.length - s.1) (fun s => [(85, aI s.1)])
      (fun s => [some (.box [.d (dI s.2)]), some (.box b.bs)]) (0, r1) ⟨by simp, by simp only; omega, by simp only; omega, by rw [h0]; rfl⟩ (wk_le (by simp only [go_sem, Bool.not_not, List.mem_singleton, forall_eq, ↓reduceIte, if_pos, rowsAt_map, wrap64, wrapu8, List.getElem?_cons_zero, List.getElem?_cons_succ, Int.reduceToNat, Nat.reduceAdd, Nat.reduceBEq, Bool.or_false, Bool.false_or, Bool.true_or, Nat.reduceSub, Nat.reduceMul, Int.reduceAdd, Int.reduceEq, Int.reduceLT, Int.reduceLE, Int.reduceNeg, Nat.reduceLT, Nat.reduceLeDiff, Nat.reduceEqDiff, B.bs]; simp) (by simp only [go_sem, Bool.not_not, List.mem_singleton, forall_eq, ↓reduceIte, if_pos, rowsAt_map, wrap64, wrapu8, List.getElem?_cons_zero, List.getElem?_cons_succ, Int.reduceToNat, Nat.reduceAdd, Nat.reduceBEq, Bool.or_false, Bool.false_or, Bool.true_or, Nat.reduceSub, Nat.reduceMul, Int.reduceAdd, Int.reduceEq, Int.reduceLT, Int.reduceLE, Int.reduceNeg, Nat.reduceLT, Nat.reduceLeDiff, Nat.reduceEqDiff, B.bs])) ?_
    rintro ⟨i, r1⟩ ⟨h1, h2, h3, h4⟩
    simp only at h1 h2 h3 h4
    clear h0
    simp only [go_sem, Bool.not_not, List.mem_singleton, forall_eq, ↓reduceIte, if_pos, rowsAt_map, wrap64, wrapu8, List.getElem?_cons_zero, List.getElem?_cons_succ, Int.reduceToNat, Nat.reduceAdd, Nat.reduceBEq, Bool.or_false, Bool.false_or, Bool.true_or, Nat.reduceSub, Nat.reduceMul, Int.reduceAdd, Int.reduceEq, Int.reduceLT, Int.reduceLE, Int.reduceNeg, Nat.reduceLT, Nat.reduceLeDiff, Nat.reduceEqDiff, B.bs]
    repeat' first
    | with_reducible refine awp_seq ?_
    | ((with_reducible refine awp_region ?_); refine zS ?_)
    | ((with_reducible refine AWP_c ?_); refine zcdD ?_ ?_ <;> intro hb hb2 <;> first | contradiction | (exfalso; omega) | ((try refine zH hb2 ?_); try clear hb2))
    | ((with_reducible refine AWP_c ?_); refine zcdB ?_ ?_ <;> intro hb <;> first | contradiction | (try refine zH hb ?_))
    | ((with_reducible refine awp_ret ?_); refine fin_q ?_ ?_)
    | ((with_reducible refine awp_skip ?_); refine zS ?_)
    | with_reducible refine awp_block ?_
    | ((with_reducible refine awp_exit ?_); refine zS ?_)
    | ((with_reducible refine CallK_id ?_); refine zcT [0] ?_; refine ⟨_, _, by first | exact lt_ok (gt b.nodes i).t r1 1 (by omega) (by omega) (by omega) (by omega) | fail, ?_⟩; try refine zS ?_)
    · have hi : i < b.nodes.length := by omega
      rw [h4, drop_gt hi, List.map_cons, lTs_t ‹_ = true›]
    · have hi : i < b.nodes.length := by omega
      rw [h4, drop_gt hi, List.map_cons, lTs_t ‹_ = true›]
    · have hi : i < b.nodes.length := by omega
      have hl := ‹(largeT (gt b.nodes i).t r1 1).1 = false›
      have hq := largeT_le (gt b.nodes i).t r1 1
      have hq2 := hq.2.2 hl
      exact ⟨(i + 1, (largeT (gt b.nodes i).t r1 1).2), ⟨by simp only; omega, by simp only; omega, by simp only; omega, by rw [h4, drop_gt hi, List.map_cons, lTs_f ‹_ = false›]⟩, by simp only; omega, wk_cl 2 (by decide) (by simp) (by simp only [go_sem, Bool.not_not, List.mem_singleton, forall_eq, ↓reduceIte, if_pos, rowsAt_map, wrap64, wrapu8, List.getElem?_cons_zero, List.getElem?_cons_succ, Int.reduceToNat, Nat.reduceAdd, Nat.reduceBEq, Bool.or_false, Bool.false_or, Bool.true_or, Nat.reduceSub, Nat.reduceMul, Int.reduceAdd, Int.reduceEq, Int.reduceLT, Int.reduceLE, Int.reduceNeg, Nat.reduceLT, Nat.reduceLeDiff, Nat.reduceEqDiff]; simp) (by simp only [go_sem, Bool.not_not, List.mem_singleton, forall_eq, ↓reduceIte, if_pos, rowsAt_map, wrap64, wrapu8, List.getElem?_cons_zero, List.getElem?_cons_succ, Int.reduceToNat, Nat.reduceAdd, Nat.reduceBEq, Bool.or_false, Bool.false_or, Bool.true_or, Nat.reduceSub, Nat.reduceMul, Int.reduceAdd, Int.reduceEq, Int.reduceLT, Int.reduceLE, Int.reduceNeg, Nat.reduceLT, Nat.reduceLeDiff, Nat.reduceEqDiff, B.bs])⟩
    have h0 : largeB b r d = K3 b d r1 := by
      have hi : i = b.nodes.length := by omega
      subst hi
      rw [h4, List.drop_length, List.map_nil, lTs_n]
    refine awp_loopT (fun s : Nat × Int => s.1 ≤ b.flows.length ∧ 0 ≤ s.2 ∧ s.2 ≤ r - 1 ∧ largeB b r d = thenL (largeTs ((b.flows.drop s.1).map Fl.t) s.2 1) (K4 b d)) (fun s => b.flows.length - s.1) (fun s => [(98, aI s.1)])
      (fun s => [some (.box [.d (dI s.2)]), some (.box b.bs)]) (0, r1) ⟨by simp, by simp only; omega, by simp only; omega, by rw [h0]; rfl⟩ (wk_le (by simp only [go_sem, Bool.not_not, List.mem_singleton, forall_eq, ↓reduceIte, if_pos, rowsAt_map, wrap64, wrapu8, List.getElem?_cons_zero, List.getElem?_cons_succ, Int.reduceToNat, Nat.reduceAdd, Nat.reduceBEq, Bool.or_false, Bool.false_or, Bool.true_or, Nat.reduceSub, Nat.reduceMul, Int.reduceAdd, Int.reduceEq, Int.reduceLT, Int.reduceLE, Int.reduceNeg, Nat.reduceLT, Nat.reduceLeDiff, Nat.reduceEqDiff, B.bs]; simp) (by simp only [go_sem, Bool.not_not, List.mem_singleton, forall_eq, ↓reduceIte, if_pos, rowsAt_map, wrap64, wrapu8, List.getElem?_cons_zero, List.getElem?_cons_succ, Int.reduceToNat, Nat.reduceAdd, Nat.reduceBEq, Bool.or_false, Bool.false_or, Bool.true_or, Nat.reduceSub, Nat.reduceMul, Int.reduceAdd, Int.reduceEq, Int.reduceLT, Int.reduceLE, Int.reduceNeg, Nat.reduceLT, Nat.reduceLeDiff, Nat.reduceEqDiff, B.bs])) ?_
    rintro ⟨i, r1⟩ ⟨h1, h2, h3, h4⟩
    simp only at h1 h2 h3 h4
    clear h0
    simp only [go_sem, Bool.not_not, List.mem_singleton, forall_eq, ↓reduceIte, if_pos, rowsAt_map, wrap64, wrapu8, List.getElem?_cons_zero, List.getElem?_cons_succ, Int.reduceToNat, Nat.reduceAdd, Nat.reduceBEq, Bool.or_false, Bool.false_or, Bool.true_or, Nat.reduceSub, Nat.reduceMul, Int.reduceAdd, Int.reduceEq, Int.reduceLT, Int.reduceLE, Int.reduceNeg, Nat.reduceLT, Nat.reduceLeDiff, Nat.reduceEqDiff, B.bs]
    repeat' first
    | with_reducible refine awp_seq ?_
    | ((with_reducible refine awp_region ?_); refine zS ?_)
    | ((with_reducible refine AWP_c ?_); refine zcdD ?_ ?_ <;> intro hb hb2 <;> first | contradiction | (exfalso; omega) | ((try refine zH hb2 ?_); try clear hb2))
    | ((with_reducible refine AWP_c ?_); refine zcdB ?_ ?_ <;> intro hb <;> first | contradiction | (try refine zH hb ?_))
    | ((with_reducible refine awp_ret ?_); refine fin_q ?_ ?_)
    | ((with_reducible refine awp_skip ?_); refine zS ?_)
    | with_reducible refine awp_block ?_
    | ((with_reducible refine awp_exit ?_); refine zS ?_)
    | ((with_reducible refine CallK_id ?_); refine zcT [0] ?_; refine ⟨_, _, by first | exact lt_ok (gt b.flows i).t r1 1 (by omega) (by omega) (by omega) (by omega) | fail, ?_⟩; try refine zS ?_)
    · have hi : i < b.flows.length := by omega
      rw [h4, drop_gt hi, List.map_cons, lTs_t ‹_ = true›]
    · have hi : i < b.flows.length := by omega
      rw [h4, drop_gt hi, List.map_cons, lTs_t ‹_ = true›]
    · have hi : i < b.flows.length := by omega
      have hl := ‹(largeT (gt b.flows i).t r1 1).1 = false›
      have hq := largeT_le (gt b.flows i).t r1 1
      have hq2 := hq.2.2 hl
      exact ⟨(i + 1, (largeT (gt b.flows i).t r1 1).2), ⟨by simp only; omega, by simp only; omega, by simp only; omega, by rw [h4, drop_gt hi, List.map_cons, lTs_f ‹_ = false›]⟩, by simp only; omega, wk_cl 2 (by decide) (by simp) (by simp only [go_sem, Bool.not_not, List.mem_singleton, forall_eq, ↓reduceIte, if_pos, rowsAt_map, wrap64, wrapu8, List.getElem?_cons_zero, List.getElem?_cons_succ, Int.reduceToNat, Nat.reduceAdd, Nat.reduceBEq, Bool.or_false, Bool.false_or, Bool.true_or, Nat.reduceSub, Nat.reduceMul, Int.reduceAdd, Int.reduceEq, Int.reduceLT, Int.reduceLE, Int.reduceNeg, Nat.reduceLT, Nat.reduceLeDiff, Nat.reduceEqDiff]; simp) (by simp only [go_sem, Bool.not_not, List.mem_singleton, forall_eq, ↓reduceIte, if_pos, rowsAt_map, wrap64, wrapu8, List.getElem?_cons_zero, List.getElem?_cons_succ, Int.reduceToNat, Nat.reduceAdd, Nat.reduceBEq, Bool.or_false, Bool.false_or, Bool.true_or, Nat.reduceSub, Nat.reduceMul, Int.reduceAdd, Int.reduceEq, Int.reduceLT, Int.reduceLE, Int.reduceNeg, Nat.reduceLT, Nat.reduceLeDiff, Nat.reduceEqDiff, B.bs])⟩
    have h0 : largeB b r d = K4 b d r1 := by
      have hi : i = b.flows.length := by omega
      subst hi
      rw [h4, List.drop_length, List.map_nil, lTs_n]
    refine awp_loopT (fun s : Nat × Int => s.1 ≤ b.kids.length ∧ 0 ≤ s.2 ∧ s.2 ≤ r - 1 ∧ largeB b r d = largeBs (b.kids.drop s.1) s.2 (d + 1)) (fun s => b.kids.length - s.1) (fun s => [(110, aI s.1)])
      (fun s => [some (.box [.d (dI s.2)]), some (.box b.bs)]) (0, r1) ⟨by simp, by simp only; omega, by simp only; omega, by rw [h0]; rfl⟩ (wk_le (by simp only [go_sem, Bool.not_not, List.mem_singleton, forall_eq, ↓reduceIte, if_pos, rowsAt_map, wrap64, wrapu8, List.getElem?_cons_zero, List.getElem?_cons_succ, Int.reduceToNat, Nat.reduceAdd, Nat.reduceBEq, Bool.or_false, Bool.false_or, Bool.true_or, Nat.reduceSub, Nat.reduceMul, Int.reduceAdd, Int.reduceEq, Int.reduceLT, Int.reduceLE, Int.reduceNeg, Nat.reduceLT, Nat.reduceLeDiff, Nat.reduceEqDiff, B.bs]; simp) (by simp only [go_sem, Bool.not_not, List.mem_singleton, forall_eq, ↓reduceIte, if_pos, rowsAt_map, wrap64, wrapu8, List.getElem?_cons_zero, List.getElem?_cons_succ, Int.reduceToNat, Nat.reduceAdd, Nat.reduceBEq, Bool.or_false, Bool.false_or, Bool.true_or, Nat.reduceSub, Nat.reduceMul, Int.reduceAdd, Int.reduceEq, Int.reduceLT, Int.reduceLE, Int.reduceNeg, Nat.reduceLT, Nat.reduceLeDiff, Nat.reduceEqDiff, B.bs])) ?_
    rintro ⟨i, r1⟩ ⟨h1, h2, h3, h4⟩
    simp only at h1 h2 h3 h4
    clear h0
    simp only [go_sem, Bool.not_not, List.mem_singleton, forall_eq, ↓reduceIte, if_pos, rowsAt_map, wrap64, wrapu8, List.getElem?_cons_zero, List.getElem?_cons_succ, Int.reduceToNat, Nat.reduceAdd, Nat.reduceBEq, Bool.or_false, Bool.false_or, Bool.true_or, Nat.reduceSub, Nat.reduceMul, Int.reduceAdd, Int.reduceEq, Int.reduceLT, Int.reduceLE, Int.reduceNeg, Nat.reduceLT, Nat.reduceLeDiff, Nat.reduceEqDiff, B.bs]
    repeat' first
    | with_reducible refine awp_seq ?_
    | ((with_reducible refine awp_region ?_); refine zS ?_)
    | ((with_reducible refine AWP_c ?_); refine zcdD ?_ ?_ <;> intro hb hb2 <;> first | contradiction | (exfalso; omega) | ((try refine zH hb2 ?_); try clear hb2))
    | ((with_reducible refine AWP_c ?_); refine zcdB ?_ ?_ <;> intro hb <;> first | contradiction | (try refine zH hb ?_))
    | ((with_reducible refine awp_ret ?_); refine fin_q ?_ ?_)
    | ((with_reducible refine awp_skip ?_); refine zS ?_)
    | with_reducible refine awp_block ?_
    | ((with_reducible refine awp_exit ?_); refine zS ?_)
    | ((with_reducible refine CallK_id ?_); refine zcT [0] ?_; refine ⟨_, _, by first | exact ih (gt b.kids i) r1 (d + 1) (B.size_lt (gt_mem (by omega))) (by omega) (by omega) (by omega) (by omega) | fail, ?_⟩; try refine zS ?_)
    · have hi : i < b.kids.length := by omega
      rw [h4, drop_gt hi, largeBs, thenL_t ‹_ = true›]
    · have hi : i < b.kids.length := by omega
      rw [h4, drop_gt hi, largeBs, thenL_t ‹_ = true›]
    · have hi : i < b.kids.length := by omega
      have hl := ‹(largeB (gt b.kids i) r1 (d + 1)).1 = false›
      have hq := largeB_le (gt b.kids i) r1 (d + 1)
      have hq2 := hq.2.2 hl
      exact ⟨(i + 1, (largeB (gt b.kids i) r1 (d + 1)).2), ⟨by simp only; omega, by simp only; omega, by simp only; omega, by rw [h4, drop_gt hi, largeBs, thenL_f ‹_ = false›]⟩, by simp only; omega, wk_cl 2 (by decide) (by simp) (by simp only [go_sem, Bool.not_not, List.mem_singleton, forall_eq, ↓reduceIte, if_pos, rowsAt_map, wrap64, wrapu8, List.getElem?_cons_zero, List.getElem?_cons_succ, Int.reduceToNat, Nat.reduceAdd, Nat.reduceBEq, Bool.or_false, Bool.false_or, Bool.true_or, Nat.reduceSub, Nat.reduceMul, Int.reduceAdd, Int.reduceEq, Int.reduceLT, Int.reduceLE, Int.reduceNeg, Nat.reduceLT, Nat.reduceLeDiff, Nat.reduceEqDiff]; simp) (by simp only [go_sem, Bool.not_not, List.mem_singleton, forall_eq, ↓reduceIte, if_pos, rowsAt_map, wrap64, wrapu8, List.getElem?_cons_zero, List.getElem?_cons_succ, Int.reduceToNat, Nat.reduceAdd, Nat.reduceBEq, Bool.or_false, Bool.false_or, Bool.true_or, Nat.reduceSub, Nat.reduceMul, Int.reduceAdd, Int.reduceEq, Int.reduceLT, Int.reduceLE, Int.reduceNeg, Nat.reduceLT, Nat.reduceLeDiff, Nat.reduceEqDiff, B.bs])⟩
    · have hi : i = b.kids.length := by omega
      subst hi
      rw [h4, List.drop_length, largeBs]
    · have hi : i = b.kids.length := by omega
      subst hi
      rw [h4, List.drop_length, largeBs]
theorem large_ok (b : B) (r d : Int) (hr : -4611686018427387904 < r) (hr2 : r < 4611686018427387904) (hd : 0 ≤ d) (hd2 : d ≤ 41) : AFn env 7 [b.a, P0, aI d] [some (.box [.d (dI r)])] (aB (largeB b r d).1) [some (.box [.d (dI (largeB b r d).2)])] := by
  generalize hn : b.size = n
  induction n using Nat.strongRecOn generalizing b r d with
  | _ n ih0 => exact largeB_ok0 b r d hr hr2 hd hd2 fun k r d h h2 h3 h4 h5 => ih0 k.size (by omega) k r d h2 h3 h4 h5 rfl
theorem not_large {b : B} {r : Int} (h : (largeB b r 1).1 = false) (hr : 0 ≤ r) (hr2 : r ≤ 1500) : b.size ≤ 100000 := by
  have := (largeB_le b r 1)
  have h2 := this.2.2 h
  omega
end Go.Eng
open Go Go.Proofs
namespace Go.Eng
set_option linter.unusedSimpArgs false
set_option linter.unusedVariables false
set_option maxRecDepth 10000
set_option maxHeartbeats 4000000

mutual
def B.count : B → Nat
  | .mk _ _ _ _ _ _ ks _ _ _ => B.counts ks + 1
def B.counts : List B → Nat
  | [] => 0
  | t :: l => t.count + B.counts l
end
mutual
theorem B.count_le : ∀ b : B, b.count ≤ b.size
  | .mk _ _ _ _ _ _ ks _ _ _ => by have := B.counts_le ks; simp only [B.count, B.size]; omega
theorem B.counts_le : ∀ l : List B, B.counts l ≤ B.sizes l
  | [] => by simp [B.counts]
  | t :: l => by have := B.count_le t; have := B.counts_le l; simp only [B.counts, B.sizes]; omega
end
mutual
def itemsF : B → Int → Int → Nat → List It
  | .mk k n x y t c ks l ns fs, p, q, off => ⟨p, q, .mk k n x y t c ks l ns fs⟩ :: itemsK ks off (off + 1) 0
def itemsK : List B → Nat → Nat → Nat → List It
  | [], _, _, _ => []
  | b :: l, own, off, i => itemsF b own i off ++ itemsK l own (off + b.count) (i + 1)
end
theorem itemsF_eq (b : B) (p q : Int) (off : Nat) : itemsF b p q off = ⟨p, q, b⟩ :: itemsK b.kids off (off + 1) 0 := by cases b; rw [itemsF]; rfl
mutual
theorem itemsF_len : ∀ (b : B) (p q : Int) (off : Nat), (itemsF b p q off).length = b.count
  | .mk k n x y t c ks l ns fs, p, q, off => by rw [itemsF, List.length_cons, itemsK_len ks]; simp only [B.count]
theorem itemsK_len : ∀ (l : List B) (own off i : Nat), (itemsK l own off i).length = B.counts l
  | [], _, _, _ => by simp [itemsK, B.counts]
  | b :: l, own, off, i => by rw [itemsK, List.length_append, itemsF_len b, itemsK_len l]; simp only [B.counts]
end
def Own (n : Nat) : A := .c (.own 0 0 n n)
def RwI (l : List It) : Option Blk := some (.rows 14 (l.map It.row))
attribute [go_sem] Own RwI

theorem listed_ok (b : B) (p q : Int) (l : List It) (hs : l.length + b.size ≤ 1000000) :
    AFn env 49 [Own l.length, b.a, aI p, aI q] [RwI l] (Own (l ++ itemsF b p q l.length).length) [RwI (l ++ itemsF b p q l.length)] := by
  generalize hn : b.size = n
  induction n using Nat.strongRecOn generalizing b p q l with
  | _ n ih0 =>
    have ih : ∀ (b' : B) (p q : Int) (l : List It), b'.size < b.size → l.length + b'.size ≤ 1000000 → AFn env 49 [Own l.length, b'.a, aI p, aI q] [RwI l] (Own (l ++ itemsF b' p q l.length).length) [RwI (l ++ itemsF b' p q l.length)] :=
      fun b' p q l h h2 => ih0 b'.size (by omega) b' p q l h2 rfl
    have hbz := b.size_eq
    have hpos := b.size_pos
    have hbl := B.len_le b.kids
    have e1 : l.map It.row ++ [It.row ⟨p, q, b⟩] = (l ++ [⟨p, q, b⟩] : List It).map It.row := by simp
    refine afn_body Tryz.func49 rfl (by decide) ?_
    simp only [Tryz.ntmps49, Tryz.results49, List.length_cons, List.length_nil, List.cons_append, List.nil_append, Nat.reduceAdd, Nat.reduceSub, List.replicate]
    repeat' first
    | with_reducible refine awp_seq ?_
    | ((with_reducible refine awp_region ?_); simp (maxSteps := 500000) (disch := omega) only [go_sem, Bool.not_not, List.mem_singleton, forall_eq, ↓reduceIte, if_pos, rowsAt_map, wrap64, wrapu8, List.getElem?_cons_zero, List.getElem?_cons_succ, Int.reduceToNat, Nat.reduceAdd, Nat.reduceBEq, Bool.or_false, Bool.false_or, Bool.true_or, Nat.reduceSub, Nat.reduceMul, Int.reduceAdd, Int.reduceEq, Int.reduceLT, Int.reduceLE, Int.reduceNeg, Nat.reduceLT, Nat.reduceLeDiff, Nat.reduceEqDiff, List.length_append])
    | with_reducible refine awp_block ?_
    refine awp_loopT (fun s : Nat × List It => s.1 ≤ b.kids.length ∧ s.2 ++ itemsK (b.kids.drop s.1) l.length s.2.length s.1 = l ++ itemsF b p q l.length ∧ s.2.length + B.sizes (b.kids.drop s.1) ≤ l.length + b.size) (fun s => b.kids.length - s.1) (fun s => [(0, Own s.2.length), (9, aI l.length), (17, .any), (25, aI s.1)])
      (fun s => [RwI s.2, some (.box b.bs)]) (0, l ++ [⟨p, q, b⟩]) ⟨by simp, by rw [itemsF_eq]; simp, by simp; omega⟩ (wk_cl 2 (by decide) (by simp) (by simp only [go_sem, Bool.not_not, List.mem_singleton, forall_eq, ↓reduceIte, if_pos, rowsAt_map, wrap64, wrapu8, List.getElem?_cons_zero, List.getElem?_cons_succ, Int.reduceToNat, Nat.reduceAdd, Nat.reduceBEq, Bool.or_false, Bool.false_or, Bool.true_or, Nat.reduceSub, Nat.reduceMul, Int.reduceAdd, Int.reduceEq, Int.reduceLT, Int.reduceLE, Int.reduceNeg, Nat.reduceLT, Nat.reduceLeDiff, Nat.reduceEqDiff, B.bs]; simp) (by simp only [go_sem, Bool.not_not, List.mem_singleton, forall_eq, ↓reduceIte, if_pos, rowsAt_map, wrap64, wrapu8, List.getElem?_cons_zero, List.getElem?_cons_succ, Int.reduceToNat, Nat.reduceAdd, Nat.reduceBEq, Bool.or_false, Bool.false_or, Bool.true_or, Nat.reduceSub, Nat.reduceMul, Int.reduceAdd, Int.reduceEq, Int.reduceLT, Int.reduceLE, Int.reduceNeg, Nat.reduceLT, Nat.reduceLeDiff, Nat.reduceEqDiff, B.bs]; simp [go_sem])) ?_
    rintro ⟨i, l2⟩ ⟨h1, h2, h5⟩
    simp only at h1 h2 h5
    have h3 := congrArg List.length h2
    simp only [List.length_append, itemsK_len, itemsF_len] at h3
    have h4 := b.count_le
    have hk : i < b.kids.length → l2.length + (gt b.kids i).size + B.sizes (b.kids.drop (i + 1)) ≤ l.length + b.size := fun hi => by rw [drop_gt hi, B.sizes] at h5; omega
    simp only [go_sem, Bool.not_not, List.mem_singleton, forall_eq, ↓reduceIte, if_pos, rowsAt_map, wrap64, wrapu8, List.getElem?_cons_zero, List.getElem?_cons_succ, Int.reduceToNat, Nat.reduceAdd, Nat.reduceBEq, Bool.or_false, Bool.false_or, Bool.true_or, Nat.reduceSub, Nat.reduceMul, Int.reduceAdd, Int.reduceEq, Int.reduceLT, Int.reduceLE, Int.reduceNeg, Nat.reduceLT, Nat.reduceLeDiff, Nat.reduceEqDiff, B.bs]
    repeat' first
    | with_reducible refine awp_seq ?_
    | ((with_reducible refine awp_region ?_); refine zS ?_)
    | ((with_reducible refine AWP_c ?_); refine zcdD ?_ ?_ <;> intro hb hb2 <;> first | contradiction | (exfalso; omega) | ((try refine zH hb2 ?_); try clear hb2))
    | ((with_reducible refine awp_skip ?_); refine zS ?_)
    | with_reducible refine awp_block ?_
    | ((with_reducible refine awp_exit ?_); refine zS ?_)
    | ((with_reducible refine CallK_id ?_); refine zcT [0] ?_; refine ⟨_, _, by first | exact ih (gt b.kids i) l.length i l2 (B.size_lt (gt_mem (by omega))) (by have := hk (by omega); omega) | fail, ?_⟩; try refine zS ?_)
    · have hi : i < b.kids.length := by omega
      have hk1 := hk hi
      have hc := (gt b.kids i).count_le
      exact ⟨(i + 1, l2 ++ itemsF (gt b.kids i) l.length i l2.length), ⟨by simp only; omega, by rw [← h2, drop_gt hi, itemsK]; simp [itemsF_len], by simp only [List.length_append, itemsF_len]; omega⟩, by simp only; omega, wk_cl 2 (by decide) (by simp) (by simp only [go_sem, Bool.not_not, List.mem_singleton, forall_eq, ↓reduceIte, if_pos, rowsAt_map, wrap64, wrapu8, List.getElem?_cons_zero, List.getElem?_cons_succ, Int.reduceToNat, Nat.reduceAdd, Nat.reduceBEq, Bool.or_false, Bool.false_or, Bool.true_or, Nat.reduceSub, Nat.reduceMul, Int.reduceAdd, Int.reduceEq, Int.reduceLT, Int.reduceLE, Int.reduceNeg, Nat.reduceLT, Nat.reduceLeDiff, Nat.reduceEqDiff, B.bs]; simp) (by simp only [go_sem, Bool.not_not, List.mem_singleton, forall_eq, ↓reduceIte, if_pos, rowsAt_map, wrap64, wrapu8, List.getElem?_cons_zero, List.getElem?_cons_succ, Int.reduceToNat, Nat.reduceAdd, Nat.reduceBEq, Bool.or_false, Bool.false_or, Bool.true_or, Nat.reduceSub, Nat.reduceMul, Int.reduceAdd, Int.reduceEq, Int.reduceLT, Int.reduceLE, Int.reduceNeg, Nat.reduceLT, Nat.reduceLeDiff, Nat.reduceEqDiff, B.bs])⟩
    · have hi : i = b.kids.length := by omega
      subst hi
      rw [List.drop_length, itemsK, List.append_nil] at h2
      refine awp_ret ?_
      refine fin_q ?_ ?_ (h3 := rfl)
      · rw [h2, List.length_append]
      · rw [h2]
theorem listed_nil (b : B) (hs : b.size ≤ 1000000) : AFn env 49 [.c .nils, b.a, aI (-1), aI 0] [] (aF ((itemsF b (-1) 0 0).map It.row)) [] := by
  have h := listed_ok b (-1) 0 [] (by simp; omega)
  exact afn_virt (s := 14) (rty := none) (by decide) h rfl rfl (by simp [go_sem, frA, mrg, subR]; rfl) rfl
theorem items_ok (b : B) (hs : b.size ≤ 1000000) : AFn env 40 [b.a] [] (aF ((itemsF b (-1) 0 0).map It.row)) [] := by
  refine afn_body Tryz.func40 rfl (by decide) ?_
  simp only [Tryz.ntmps40, Tryz.results40, List.length_cons, List.length_nil, List.cons_append, List.nil_append, Nat.reduceAdd, Nat.reduceSub, List.replicate]
  repeat' first
  | with_reducible refine awp_seq ?_
  | ((with_reducible refine awp_region ?_); refine zS ?_)
  refine CallK_id ?_
  refine callP ⟨_, rfl⟩ rfl rfl ⟨_, listed_nil b hs, fun _ => rfl, fun _ => rfl, rfl, ?_⟩
  refine zT ?_
  repeat' first
  | ((with_reducible refine awp_ret ?_); refine fin_r ?_)
  rfl
def Own1 (n : Nat) : A := .c (.own 1 0 n n)
attribute [go_sem] Own1
mutual
theorem itemsF_size : ∀ (b : B) (p q : Int) (off : Nat), ∀ x ∈ itemsF b p q off, x.b.size ≤ b.size
  | .mk k n x y t c ks l ns fs, p, q, off, z, hz => by
    rw [itemsF] at hz
    rcases List.mem_cons.1 hz with rfl | h
    · exact Nat.le_refl _
    · have := itemsK_size ks _ _ _ z h
      simp only [B.size]; omega
theorem itemsK_size : ∀ (l : List B) (own off i : Nat), ∀ x ∈ itemsK l own off i, x.b.size ≤ B.sizes l
  | [], _, _, _, x, h => by simp [itemsK] at h
  | b :: l, own, off, i, x, h => by
    rw [itemsK] at h
    simp only [B.sizes]
    rcases List.mem_append.1 h with h | h
    · have := itemsF_size b _ _ _ x h; omega
    · have := itemsK_size l _ _ _ x h; omega
end
end Go.Eng
open Go Go.Proofs
namespace Go.Eng
set_option linter.unusedSimpArgs false
set_option linter.unusedVariables false
set_option maxRecDepth 10000
set_option maxHeartbeats 4000000

def outB (b : B) (k l : Nat) : Option Blk := some (.box [.d (dI b.kind), .d (dI b.node), .d (dI b.x), .d (dI b.y), .d (dI b.t.op), .d (dI b.t.n), .d (.fz (b.t.kids.map T.row)), .d (.fz (b.conds.map T.row)), .own 3 0 k k, .own 4 0 l l, .d (.fz (b.nodes.map Nd.row)), .d (.fz (b.flows.map Fl.row))])
def zB : Option Blk := some (.box [.d (dI 0), .d (dI 0), .d (dI 0), .d (dI 0), .d (dI 0), .d (dI 0), .nils, .nils, .nils, .nils, .nils, .nils])
def RwB (l : List B) : Option Blk := some (.rows 12 (l.map B.row))
def RwL (l : List Lk) : Option Blk := some (.rows 2 (l.map Lk.row))
attribute [go_sem] outB zB RwB RwL
theorem take_gt {α : Type} [Inhabited α] {l : List α} {i : Nat} (h : i < l.length) : l.take (i + 1) = l.take i ++ [gt l i] := by
  rw [List.take_succ_eq_append_getElem h]; simp [gt, List.getD, h]
theorem ref_ok (b : B) (hs : b.size ≤ 1000000) : AFn env 10 [b.a] [] b.a [] := by
  generalize hn : b.size = n
  induction n using Nat.strongRecOn generalizing b with
  | _ n ih0 =>
    have ih : ∀ (k : B), k.size < b.size → AFn env 10 [k.a] [] k.a [] := fun k h => ih0 k.size (by omega) k (by omega) rfl
    have hbz := b.size_eq
    have hbl := B.len_le b.kids
    refine afn_body Tryz.func10 rfl (by decide) ?_
    simp only [Tryz.ntmps10, Tryz.results10, List.length_cons, List.length_nil, List.cons_append, List.nil_append, Nat.reduceAdd, Nat.reduceSub, List.replicate]
    repeat' first
    | with_reducible refine awp_seq ?_
    | ((with_reducible refine awp_region ?_); refine zS ?_)
    | with_reducible refine awp_block ?_
    refine awp_wk (wk_virtB none (i := 2) (j := 8) (s := 12) (by decide) rfl rfl) ?_
    refine awp_wk (wk_virtB none (i := 2) (j := 9) (s := 2) (by decide) rfl rfl) ?_
    refine awp_loopT (fun i : Nat => i ≤ b.kids.length) (fun i => b.kids.length - i) (fun i => [(26, aI i)]) (fun i => [some (.box b.bs), zB, outB b i 0, RwB (b.kids.take i), RwL []]) 0 (by omega)
      (wk_le (by simp only [go_sem, Bool.not_not, List.mem_singleton, forall_eq, ↓reduceIte, if_pos, rowsAt_map, wrap64, wrapu8, List.getElem?_cons_zero, List.getElem?_cons_succ, Int.reduceToNat, Nat.reduceAdd, Nat.reduceBEq, Bool.or_false, Bool.false_or, Bool.true_or, Nat.reduceSub, Nat.reduceMul, Int.reduceAdd, Int.reduceEq, Int.reduceLT, Int.reduceLE, Int.reduceNeg, Nat.reduceLT, Nat.reduceLeDiff, Nat.reduceEqDiff, B.bs]; simp) (by simp only [go_sem, Bool.not_not, List.mem_singleton, forall_eq, ↓reduceIte, if_pos, rowsAt_map, wrap64, wrapu8, List.getElem?_cons_zero, List.getElem?_cons_succ, Int.reduceToNat, Nat.reduceAdd, Nat.reduceBEq, Bool.or_false, Bool.false_or, Bool.true_or, Nat.reduceSub, Nat.reduceMul, Int.reduceAdd, Int.reduceEq, Int.reduceLT, Int.reduceLE, Int.reduceNeg, Nat.reduceLT, Nat.reduceLeDiff, Nat.reduceEqDiff, B.bs]; simp [go_sem])) ?_
    rintro i h1
    have hlen : (List.take i b.kids).length = i := by simp; omega
    simp only [go_sem, Bool.not_not, List.mem_singleton, forall_eq, ↓reduceIte, if_pos, rowsAt_map, wrap64, wrapu8, List.getElem?_cons_zero, List.getElem?_cons_succ, Int.reduceToNat, Nat.reduceAdd, Nat.reduceBEq, Bool.or_false, Bool.false_or, Bool.true_or, Nat.reduceSub, Nat.reduceMul, Int.reduceAdd, Int.reduceEq, Int.reduceLT, Int.reduceLE, Int.reduceNeg, Nat.reduceLT, Nat.reduceLeDiff, Nat.reduceEqDiff, B.bs]
    repeat' first
    | with_reducible refine awp_seq ?_
    | ((with_reducible refine awp_region ?_); simp (maxSteps := 500000) (disch := omega) only [go_sem, Bool.not_not, List.mem_singleton, forall_eq, ↓reduceIte, if_pos, rowsAt_map, wrap64, wrapu8, List.getElem?_cons_zero, List.getElem?_cons_succ, Int.reduceToNat, Nat.reduceAdd, Nat.reduceBEq, Bool.or_false, Bool.false_or, Bool.true_or, Nat.reduceSub, Nat.reduceMul, Int.reduceAdd, Int.reduceEq, Int.reduceLT, Int.reduceLE, Int.reduceNeg, Nat.reduceLT, Nat.reduceLeDiff, Nat.reduceEqDiff, hlen])
    | ((with_reducible refine AWP_c ?_); refine cond_d (by simp (maxSteps := 500000) (disch := omega) only [go_sem, Bool.not_not, List.mem_singleton, forall_eq, ↓reduceIte, if_pos, rowsAt_map, wrap64, wrapu8, List.getElem?_cons_zero, List.getElem?_cons_succ, Int.reduceToNat, Nat.reduceAdd, Nat.reduceBEq, Bool.or_false, Bool.false_or, Bool.true_or, Nat.reduceSub, Nat.reduceMul, Int.reduceAdd, Int.reduceEq, Int.reduceLT, Int.reduceLE, Int.reduceNeg, Nat.reduceLT, Nat.reduceLeDiff, Nat.reduceEqDiff, hlen]; first | done | rfl) ?_ ?_ <;> intro hb hb2 <;> first | contradiction | (exfalso; omega) | ((try simp (maxSteps := 500000) (disch := omega) only [go_sem, Bool.not_not, List.mem_singleton, forall_eq, ↓reduceIte, if_pos, rowsAt_map, wrap64, wrapu8, List.getElem?_cons_zero, List.getElem?_cons_succ, Int.reduceToNat, Nat.reduceAdd, Nat.reduceBEq, Bool.or_false, Bool.false_or, Bool.true_or, Nat.reduceSub, Nat.reduceMul, Int.reduceAdd, Int.reduceEq, Int.reduceLT, Int.reduceLE, Int.reduceNeg, Nat.reduceLT, Nat.reduceLeDiff, Nat.reduceEqDiff, hlen, hb2]); try clear hb2))
    | ((with_reducible refine awp_skip ?_); simp (maxSteps := 500000) (disch := omega) only [go_sem, Bool.not_not, List.mem_singleton, forall_eq, ↓reduceIte, if_pos, rowsAt_map, wrap64, wrapu8, List.getElem?_cons_zero, List.getElem?_cons_succ, Int.reduceToNat, Nat.reduceAdd, Nat.reduceBEq, Bool.or_false, Bool.false_or, Bool.true_or, Nat.reduceSub, Nat.reduceMul, Int.reduceAdd, Int.reduceEq, Int.reduceLT, Int.reduceLE, Int.reduceNeg, Nat.reduceLT, Nat.reduceLeDiff, Nat.reduceEqDiff, hlen])
    | with_reducible refine awp_block ?_
    | ((with_reducible refine awp_exit ?_); simp (maxSteps := 500000) (disch := omega) only [go_sem, Bool.not_not, List.mem_singleton, forall_eq, ↓reduceIte, if_pos, rowsAt_map, wrap64, wrapu8, List.getElem?_cons_zero, List.getElem?_cons_succ, Int.reduceToNat, Nat.reduceAdd, Nat.reduceBEq, Bool.or_false, Bool.false_or, Bool.true_or, Nat.reduceSub, Nat.reduceMul, Int.reduceAdd, Int.reduceEq, Int.reduceLT, Int.reduceLE, Int.reduceNeg, Nat.reduceLT, Nat.reduceLeDiff, Nat.reduceEqDiff, hlen])
    · refine awp_drawF [false, false, false, true] [] rfl ?_
      refine zT ?_
      repeat' first
      | ((with_reducible refine awp_region ?_); simp (maxSteps := 500000) (disch := omega) only [go_sem, Bool.not_not, List.mem_singleton, forall_eq, ↓reduceIte, if_pos, rowsAt_map, wrap64, wrapu8, List.getElem?_cons_zero, List.getElem?_cons_succ, Int.reduceToNat, Nat.reduceAdd, Nat.reduceBEq, Bool.or_false, Bool.false_or, Bool.true_or, Nat.reduceSub, Nat.reduceMul, Int.reduceAdd, Int.reduceEq, Int.reduceLT, Int.reduceLE, Int.reduceNeg, Nat.reduceLT, Nat.reduceLeDiff, Nat.reduceEqDiff, hlen])
      | ((with_reducible refine DStep_id ?_); refine dcallP ⟨_, rfl⟩ rfl (by simp (maxSteps := 500000) (disch := omega) only [go_sem, Bool.not_not, List.mem_singleton, forall_eq, ↓reduceIte, if_pos, rowsAt_map, wrap64, wrapu8, List.getElem?_cons_zero, List.getElem?_cons_succ, Int.reduceToNat, Nat.reduceAdd, Nat.reduceBEq, Bool.or_false, Bool.false_or, Bool.true_or, Nat.reduceSub, Nat.reduceMul, Int.reduceAdd, Int.reduceEq, Int.reduceLT, Int.reduceLE, Int.reduceNeg, Nat.reduceLT, Nat.reduceLeDiff, Nat.reduceEqDiff, hlen]; first | done | rfl | fail) ?_; refine ⟨_, by first | exact ih (gt b.kids i) (B.size_lt (gt_mem (by omega))) | fail, ?_⟩; refine ⟨fun _ => rfl, fun _ => rfl, rfl, (fun h => by first | cases h | fail), ?_⟩; try simp (maxSteps := 500000) (disch := omega) only [go_sem, Bool.not_not, List.mem_singleton, forall_eq, ↓reduceIte, if_pos, rowsAt_map, wrap64, wrapu8, List.getElem?_cons_zero, List.getElem?_cons_succ, Int.reduceToNat, Nat.reduceAdd, Nat.reduceBEq, Bool.or_false, Bool.false_or, Bool.true_or, Nat.reduceSub, Nat.reduceMul, Int.reduceAdd, Int.reduceEq, Int.reduceLT, Int.reduceLE, Int.reduceNeg, Nat.reduceLT, Nat.reduceLeDiff, Nat.reduceEqDiff, hlen])
      have hi : i < b.kids.length := by omega
      have htk : b.kids.take (i + 1) = b.kids.take i ++ [gt b.kids i] := take_gt hi
      exact ⟨i + 1, by omega, by omega, wk_cl 5 (by decide) (by simp) (by simp only [go_sem, Bool.not_not, List.mem_singleton, forall_eq, ↓reduceIte, if_pos, rowsAt_map, wrap64, wrapu8, List.getElem?_cons_zero, List.getElem?_cons_succ, Int.reduceToNat, Nat.reduceAdd, Nat.reduceBEq, Bool.or_false, Bool.false_or, Bool.true_or, Nat.reduceSub, Nat.reduceMul, Int.reduceAdd, Int.reduceEq, Int.reduceLT, Int.reduceLE, Int.reduceNeg, Nat.reduceLT, Nat.reduceLeDiff, Nat.reduceEqDiff]; simp) (by simp only [go_sem, Bool.not_not, List.mem_singleton, forall_eq, ↓reduceIte, if_pos, rowsAt_map, wrap64, wrapu8, List.getElem?_cons_zero, List.getElem?_cons_succ, Int.reduceToNat, Nat.reduceAdd, Nat.reduceBEq, Bool.or_false, Bool.false_or, Bool.true_or, Nat.reduceSub, Nat.reduceMul, Int.reduceAdd, Int.reduceEq, Int.reduceLT, Int.reduceLE, Int.reduceNeg, Nat.reduceLT, Nat.reduceLeDiff, Nat.reduceEqDiff, B.bs, htk, List.map_append])⟩
    have hi : i = b.kids.length := by omega
    subst hi
    simp only [List.take_length]
    refine awp_loopT (fun i : Nat => i ≤ b.links.length) (fun i => b.links.length - i) (fun i => [(41, aI i)]) (fun i => [some (.box b.bs), zB, outB b b.kids.length i, RwB b.kids, RwL (b.links.take i)]) 0 (by omega)
      (wk_le (by simp only [go_sem, Bool.not_not, List.mem_singleton, forall_eq, ↓reduceIte, if_pos, rowsAt_map, wrap64, wrapu8, List.getElem?_cons_zero, List.getElem?_cons_succ, Int.reduceToNat, Nat.reduceAdd, Nat.reduceBEq, Bool.or_false, Bool.false_or, Bool.true_or, Nat.reduceSub, Nat.reduceMul, Int.reduceAdd, Int.reduceEq, Int.reduceLT, Int.reduceLE, Int.reduceNeg, Nat.reduceLT, Nat.reduceLeDiff, Nat.reduceEqDiff, B.bs]; simp) (by simp only [go_sem, Bool.not_not, List.mem_singleton, forall_eq, ↓reduceIte, if_pos, rowsAt_map, wrap64, wrapu8, List.getElem?_cons_zero, List.getElem?_cons_succ, Int.reduceToNat, Nat.reduceAdd, Nat.reduceBEq, Bool.or_false, Bool.false_or, Bool.true_or, Nat.reduceSub, Nat.reduceMul, Int.reduceAdd, Int.reduceEq, Int.reduceLT, Int.reduceLE, Int.reduceNeg, Nat.reduceLT, Nat.reduceLeDiff, Nat.reduceEqDiff, B.bs]; simp [go_sem])) ?_
    rintro i h1
    have hlen : (List.take i b.links).length = i := by simp; omega
    simp only [go_sem, Bool.not_not, List.mem_singleton, forall_eq, ↓reduceIte, if_pos, rowsAt_map, wrap64, wrapu8, List.getElem?_cons_zero, List.getElem?_cons_succ, Int.reduceToNat, Nat.reduceAdd, Nat.reduceBEq, Bool.or_false, Bool.false_or, Bool.true_or, Nat.reduceSub, Nat.reduceMul, Int.reduceAdd, Int.reduceEq, Int.reduceLT, Int.reduceLE, Int.reduceNeg, Nat.reduceLT, Nat.reduceLeDiff, Nat.reduceEqDiff, B.bs]
    repeat' first
    | with_reducible refine awp_seq ?_
    | ((with_reducible refine awp_region ?_); simp (maxSteps := 500000) (disch := omega) only [go_sem, Bool.not_not, List.mem_singleton, forall_eq, ↓reduceIte, if_pos, rowsAt_map, wrap64, wrapu8, List.getElem?_cons_zero, List.getElem?_cons_succ, Int.reduceToNat, Nat.reduceAdd, Nat.reduceBEq, Bool.or_false, Bool.false_or, Bool.true_or, Nat.reduceSub, Nat.reduceMul, Int.reduceAdd, Int.reduceEq, Int.reduceLT, Int.reduceLE, Int.reduceNeg, Nat.reduceLT, Nat.reduceLeDiff, Nat.reduceEqDiff, hlen])
    | ((with_reducible refine AWP_c ?_); refine cond_d (by simp (maxSteps := 500000) (disch := omega) only [go_sem, Bool.not_not, List.mem_singleton, forall_eq, ↓reduceIte, if_pos, rowsAt_map, wrap64, wrapu8, List.getElem?_cons_zero, List.getElem?_cons_succ, Int.reduceToNat, Nat.reduceAdd, Nat.reduceBEq, Bool.or_false, Bool.false_or, Bool.true_or, Nat.reduceSub, Nat.reduceMul, Int.reduceAdd, Int.reduceEq, Int.reduceLT, Int.reduceLE, Int.reduceNeg, Nat.reduceLT, Nat.reduceLeDiff, Nat.reduceEqDiff, hlen]; first | done | rfl) ?_ ?_ <;> intro hb hb2 <;> first | contradiction | (exfalso; omega) | ((try simp (maxSteps := 500000) (disch := omega) only [go_sem, Bool.not_not, List.mem_singleton, forall_eq, ↓reduceIte, if_pos, rowsAt_map, wrap64, wrapu8, List.getElem?_cons_zero, List.getElem?_cons_succ, Int.reduceToNat, Nat.reduceAdd, Nat.reduceBEq, Bool.or_false, Bool.false_or, Bool.true_or, Nat.reduceSub, Nat.reduceMul, Int.reduceAdd, Int.reduceEq, Int.reduceLT, Int.reduceLE, Int.reduceNeg, Nat.reduceLT, Nat.reduceLeDiff, Nat.reduceEqDiff, hlen, hb2]); try clear hb2))
    | ((with_reducible refine awp_skip ?_); simp (maxSteps := 500000) (disch := omega) only [go_sem, Bool.not_not, List.mem_singleton, forall_eq, ↓reduceIte, if_pos, rowsAt_map, wrap64, wrapu8, List.getElem?_cons_zero, List.getElem?_cons_succ, Int.reduceToNat, Nat.reduceAdd, Nat.reduceBEq, Bool.or_false, Bool.false_or, Bool.true_or, Nat.reduceSub, Nat.reduceMul, Int.reduceAdd, Int.reduceEq, Int.reduceLT, Int.reduceLE, Int.reduceNeg, Nat.reduceLT, Nat.reduceLeDiff, Nat.reduceEqDiff, hlen])
    | with_reducible refine awp_block ?_
    | ((with_reducible refine awp_exit ?_); simp (maxSteps := 500000) (disch := omega) only [go_sem, Bool.not_not, List.mem_singleton, forall_eq, ↓reduceIte, if_pos, rowsAt_map, wrap64, wrapu8, List.getElem?_cons_zero, List.getElem?_cons_succ, Int.reduceToNat, Nat.reduceAdd, Nat.reduceBEq, Bool.or_false, Bool.false_or, Bool.true_or, Nat.reduceSub, Nat.reduceMul, Int.reduceAdd, Int.reduceEq, Int.reduceLT, Int.reduceLE, Int.reduceNeg, Nat.reduceLT, Nat.reduceLeDiff, Nat.reduceEqDiff, hlen])
    · have hi : i < b.links.length := by omega
      have htk : b.links.take (i + 1) = b.links.take i ++ [gt b.links i] := take_gt hi
      exact ⟨i + 1, by omega, by omega, wk_cl 5 (by decide) (by simp) (by simp only [go_sem, Bool.not_not, List.mem_singleton, forall_eq, ↓reduceIte, if_pos, rowsAt_map, wrap64, wrapu8, List.getElem?_cons_zero, List.getElem?_cons_succ, Int.reduceToNat, Nat.reduceAdd, Nat.reduceBEq, Bool.or_false, Bool.false_or, Bool.true_or, Nat.reduceSub, Nat.reduceMul, Int.reduceAdd, Int.reduceEq, Int.reduceLT, Int.reduceLE, Int.reduceNeg, Nat.reduceLT, Nat.reduceLeDiff, Nat.reduceEqDiff]; simp) (by simp only [go_sem, Bool.not_not, List.mem_singleton, forall_eq, ↓reduceIte, if_pos, rowsAt_map, wrap64, wrapu8, List.getElem?_cons_zero, List.getElem?_cons_succ, Int.reduceToNat, Nat.reduceAdd, Nat.reduceBEq, Bool.or_false, Bool.false_or, Bool.true_or, Nat.reduceSub, Nat.reduceMul, Int.reduceAdd, Int.reduceEq, Int.reduceLT, Int.reduceLE, Int.reduceNeg, Nat.reduceLT, Nat.reduceLeDiff, Nat.reduceEqDiff, B.bs, htk, List.map_append])⟩
    have hi : i = b.links.length := by omega
    subst hi
    simp only [List.take_length]
    refine awp_ret ?_
    refine fin_r (r0 := b.a) (H1 := [some (.box b.bs), outB b b.kids.length b.links.length, outB b b.kids.length b.links.length, none, none]) rfl (h2 := by simp only [go_sem, Bool.not_not, List.mem_singleton, forall_eq, ↓reduceIte, if_pos, rowsAt_map, wrap64, wrapu8, List.getElem?_cons_zero, List.getElem?_cons_succ, Int.reduceToNat, Nat.reduceAdd, Nat.reduceBEq, Bool.or_false, Bool.false_or, Bool.true_or, Nat.reduceSub, Nat.reduceMul, Int.reduceAdd, Int.reduceEq, Int.reduceLT, Int.reduceLE, Int.reduceNeg, Nat.reduceLT, Nat.reduceLeDiff, Nat.reduceEqDiff, B.bs, Nat.le_refl, and_self, subR]; done)
end Go.Eng
