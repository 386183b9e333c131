/- The words of a machine on plain data, and that the program does what this machine does. -/
import Derived.Test.YtmamiagddgldkaaDoorEa
import Derived.Laws.Tables
import Derived.Laws.MakeOwn
import GoSem.Instr.MapUpdate
import GoSem.Instr.MakeMap
namespace Go.Eng
open Go.RowKit
set_option linter.unusedVariables false
set_option linter.unusedSimpArgs false

def cellsOf : A → Option (List C)
  | .c c => some [c]
  | .agg cs => some cs
  | _ => none

theorem cells_of_one {v : Value} (h : one v = true) : v.cells = #[v] := by cases v <;> first | rfl | cases h

theorem cellsOf_ok {x : Ctx} {a : A} {v : Value} {cs : List C} (ha : VA x a v) (h : cellsOf a = some cs) : CsR x cs v.cells ∧ ∀ u ∈ v.cells.toList, one u = true := by
  cases ha with
  | c c v hv =>
    cases h
    rw [cells_of_one hv.one]
    refine ⟨⟨rfl, fun i c' hc => ?_⟩, fun u hu => ?_⟩
    · cases i with
      | zero => cases hc; exact ⟨v, rfl, hv⟩
      | succ i => cases hc
    · simp at hu; rw [hu]; exact hv.one
  | agg cs' vs hv =>
    cases h
    refine ⟨hv, fun u hu => ?_⟩
    obtain ⟨i, hi⟩ := List.getElem?_of_mem hu
    have hi' : vs[i]? = some u := by simpa [Value.cells] using hi
    have hlt : i < cs.length := by rw [← hv.1]; exact (Array.getElem?_eq_some_iff.1 hi').1
    obtain ⟨u', h1, h2⟩ := hv.get hlt
    rw [hi'] at h1
    cases h1
    exact h2.one
  | _ => cases h

def splC {α : Type} : Nat → List α → List α → Option (List α)
  | 0, [], l => some l
  | 0, n :: ns, _ :: l => match splC 0 ns l with | some r => some (n :: r) | none => none
  | o + 1, ns, c :: l => match splC o ns l with | some r => some (c :: r) | none => none
  | _, _, _ => none

theorem splC_eq {α : Type} : ∀ {o : Nat} {ns l r : List α}, splC o ns l = some r → o + ns.length ≤ l.length ∧ r = l.take o ++ ns ++ l.drop (o + ns.length)
  | 0, [], l, r, h => by simp [splC] at h; subst h; simp
  | 0, n :: ns, [], r, h => by simp [splC] at h
  | 0, n :: ns, c :: l, r, h => by
    simp only [splC] at h
    split at h
    · rename_i r' h'
      cases h
      obtain ⟨h1, h2⟩ := splC_eq h'
      exact ⟨by simp; omega, by rw [h2]; simp [Nat.add_comm]⟩
    · cases h
  | o + 1, ns, [], r, h => by cases ns <;> simp [splC] at h
  | o + 1, ns, c :: l, r, h => by
    have h' : (match splC o ns l with | some r => some (c :: r) | none => none) = some r := by cases ns <;> simpa [splC] using h
    split at h'
    · rename_i r' h''
      cases h'
      obtain ⟨h1, h2⟩ := splC_eq h''
      exact ⟨by simp; omega, by rw [h2]; simp [Nat.add_right_comm]⟩
    · cases h'

theorem get_spl {α : Type} {l ns : List α} {o i : Nat} (h : o + ns.length ≤ l.length) : (l.take o ++ ns ++ l.drop (o + ns.length))[i]? = if i < o then l[i]? else if i < o + ns.length then ns[i - o]? else l[i]? := by
  have ho : (l.take o).length = o := by simp; omega
  split
  · rename_i h1
    rw [List.getElem?_append_left (by simp; omega), List.getElem?_append_left (by omega)]
    simp [h1]
  · rename_i h1
    split
    · rename_i h2
      rw [List.getElem?_append_left (by simp; omega), List.getElem?_append_right (by omega), ho]
    · rename_i h2
      rw [List.getElem?_append_right (by simp; omega)]
      simp only [List.length_append, ho, List.getElem?_drop]
      congr 1
      omega

def subR (off len n : Nat) (rs : List (List D)) : List (List D) := if off = 0 ∧ len = n then rs else (rs.drop off).take len

def toD (H : Heap) : C → Option (D × Heap)
  | .d x => some (x, H)
  | .nils => some (.fz [], H)
  | .own id off len n => match hG H id with
    | some (.rows s rs _) => if n = rs.length ∧ off + len ≤ n then some (.fz (subR off len n rs), hP H id none) else none
    | _ => none
  | _ => none

def toDs (H : Heap) : List C → Option (List D × Heap)
  | [] => some ([], H)
  | c :: l => match toD H c with
    | some (d, H1) => match toDs H1 l with
      | some (ds, H2) => some (d :: ds, H2)
      | none => none
    | none => none

section
variable {E : Env} {B : Base} {x : Ctx} {O : Nat → Nat → Prop} {H : Heap}

theorem subR_eq {off len n : Nat} {rs : List (List D)} (h : n = rs.length) (h2 : off + len ≤ n) : subR off len n rs = (rs.drop off).take len := by
  unfold subR
  split
  · rename_i e
    rw [e.1, e.2, h]; simp
  · rfl

theorem toD_ok (hR : Rel B x O H) {c : C} {v : Value} {d : D} {H' : Heap} (hv : VR x c v) (h : toD H c = some (d, H')) :
    ∃ y O', y.w = x.w ∧ x.Le y ∧ Rel B y O' H' ∧ DR y.w y.F d v := by
  unfold toD at h
  split at h
  · cases h
    cases hv with | d _ _ hv => exact ⟨x, O, rfl, .refl x, hR, hv⟩
  · cases h
    cases hv with | nils => exact ⟨x, O, rfl, .refl x, hR, .nil _ _⟩
  · rename_i id off len n
    split at h
    · rename_i s rs tyB hb
      split at h
      · rename_i hc
        cases h
        obtain ⟨rfl, hle⟩ := hc
        have hb' := hG_some hb
        cases hv with | own _ _ _ _ _ hv =>
        have hN : x.N id = some (s, rs.length) := by rw [hR.hN]; exact nOf_some hb'
        have hv := (hv.2.2 s _ hN).2 rfl
        obtain ⟨y, O', hw, hle', hF, hR'⟩ := hR.freeze hb'
        refine ⟨y, O', hw, hle', by rw [hP_eq]; exact hR', ?_⟩
        rw [subR_eq rfl hle]
        obtain ⟨h0, hrs, hbk⟩ := hR.blk _ _ hb'
        split at hv
        · obtain ⟨rfl, rfl, rfl, _⟩ := hv
          simp only [List.take_zero]
          exact .nil _ _
        · rename_i b lo hμ
          obtain ⟨a, cap, sz, rfl, ha, hlo, q1, q2, q3, q4, q5⟩ := hv
          have hlen : ((rs.drop off).take len).length = len := by simp; omega
          by_cases hl : len = 0
          · subst hl
            simp only [List.take_zero]
            exact .nil _ _
          · have ha' := ha.resolve_left (by omega)
            subst ha'
            rcases hbk with ⟨hn, _⟩ | ⟨b', lo', vs, t, hμ', hO, hh, hl1, hl2, hcs⟩
            · rw [hn] at hμ; cases hμ
            · rw [hμ'] at hμ
              cases hμ
              have key : ∀ i r c d, ((rs.drop off).take len)[i]? = some r → r[c]? = some d → ∃ u, y.w.cell? ⟨b, (off - lo) * s + (i * s + c), none⟩ = some u ∧ DR y.w y.F d u := fun i r c d hi hd => by
                have hi2 : i < len := by have := (List.getElem?_eq_some_iff.1 hi).1; omega
                rw [List.getElem?_take, if_pos hi2, List.getElem?_drop] at hi
                obtain ⟨u, hu, hd'⟩ := hcs (off + i) r c d (by omega) hi hd
                refine ⟨u, ?_, hd'.mono hle'.F⟩
                rw [hw]
                simp only [World.cell?, hh]
                have e : (off + i - lo) * s = (off - lo) * s + i * s := by rw [← Nat.add_mul]; congr 1; omega
                rw [e, Nat.add_assoc] at hu
                simpa using hu
              have := DR.fz (w := y.w) (F := y.F) ((rs.drop off).take len) b ((off - lo) * s) cap s (fun i c => (y.w.cell? ⟨b, (off - lo) * s + (i * s + c), none⟩).getD undef) (by omega)
                (fun r hr => hrs r (List.mem_of_mem_drop (List.mem_of_mem_take hr))) ((hF b).2 (.inr hO))
                (fun i r c d hi hd => by obtain ⟨u, hu, _⟩ := key i r c d hi hd; rw [hu]; rfl)
                (fun i r c d hi hd => by obtain ⟨u, hu, hv⟩ := key i r c d hi hd; rw [hu]; exact hv)
              rw [hlen] at this
              exact this
      · cases h
    · cases h
  · cases h

theorem toDs_ok : ∀ {cs : List C} {x : Ctx} {O : Nat → Nat → Prop} {H : Heap} {ds : List D} {H' : Heap} {vs : List Value}, Rel B x O H → (vs.length = cs.length) → (∀ (i : Nat) c, cs[i]? = some c → ∃ u, vs[i]? = some u ∧ VR x c u) →
    toDs H cs = some (ds, H') → ∃ y O', y.w = x.w ∧ x.Le y ∧ Rel B y O' H' ∧ ds.length = cs.length ∧ ∀ (i : Nat) d, ds[i]? = some d → ∃ u, vs[i]? = some u ∧ DR y.w y.F d u
  | [], x, O, H, ds, H', vs, hR, hl, hv, h => by cases h; exact ⟨x, O, rfl, .refl x, hR, rfl, fun i d hd => by simp at hd⟩
  | c :: cs, x, O, H, ds, H', [], hR, hl, hv, h => by simp at hl
  | c :: cs, x, O, H, ds, H', v :: vs, hR, hl, hv, h => by
    simp only [toDs] at h
    split at h
    · rename_i d H1 h1
      split at h
      · rename_i ds' H2 h2
        cases h
        obtain ⟨u, hu, hvu⟩ := hv 0 c rfl
        cases hu
        obtain ⟨y, O1, e1, l1, R1, D1⟩ := toD_ok hR hvu h1
        obtain ⟨z, O2, e2, l2, R2, len2, D2⟩ := toDs_ok R1 (by simpa using hl) (fun i c hc => let ⟨u, hu, hvu⟩ := hv (i + 1) c hc; ⟨u, by simpa using hu, hvu.mono l1⟩) h2
        refine ⟨z, O2, e2.trans e1, l1.trans l2, R2, by simp [len2], fun i d' hd => ?_⟩
        cases i with
        | zero => cases hd; exact ⟨v, rfl, D1.mono l2.F⟩
        | succ i => obtain ⟨u, hu, hd'⟩ := D2 i d' (by simpa using hd); exact ⟨u, by simpa using hu, hd'⟩
      · cases h
    · cases h
end
end Go.Eng
namespace Go.Eng
open Go.RowKit
set_option linter.unusedVariables false
set_option linter.unusedSimpArgs false

def aBox (H : Heap) (a : A) (ty : Option TypeId := none) : Option (A × Heap) :=
  match cellsOf a with
  | some cs => some (.c (.ptr H.length 0 0 0), H ++ [some (.box cs ty)])
  | none => none

def aAlloc (E : Env) (H : Heap) (t : TypeId) : Option (A × Heap) :=
  match E.inf t with
  | some (_, _, z) => aBox H (cvA z) (E.ty t)
  | none => none

def fillC (E : Env) (t : TypeId) : List (Nat × A) → List C → Option (List C)
  | [], cs => some cs
  | (f, a) :: l, cs => match E.fld t f with
    | some (off, ft) => match cellsOf a, E.size ft with
      | some ns, some n => if ns.length = n then match splC off ns cs with | some r => fillC E t l r | none => none else none
      | _, _ => none
    | none => none

def aBuild (E : Env) (t : TypeId) (ps : List (Nat × A)) : Option A :=
  match E.inf t with
  | some (_, _, z) => match cellsOf (cvA z) with
    | some cs => match fillC E t ps cs with | some r => some (.agg r) | none => none
    | none => none
  | none => none

def rowsOf (H : Heap) (n : Nat) : Nat → List (Nat × A) → Option (List (List D) × Heap)
  | _, [] => some ([], H)
  | k, (i, a) :: l => if i = k then match cellsOf a with
      | some cs => if cs.length = n then match toDs H cs with
          | some (ds, H1) => match rowsOf H1 n (k + 1) l with
            | some (rs, H2) => some (ds :: rs, H2)
            | none => none
          | none => none
        else none
      | none => none
    else none

def aBuildSlice (E : Env) (H : Heap) (t : TypeId) (len : Nat) (ps : List (Nat × A)) : Option (A × Heap) :=
  match E.elt t with
  | some e => match E.size e with
    | some (n + 1) => if len = ps.length ∧ len * (n + 1) ≤ 16777216 then match rowsOf H (n + 1) 0 ps with
        | some (rs, H1) => some (.c (.own H1.length 0 len len), H1 ++ [some (.rows (n + 1) rs)])
        | none => none
      else none
    | _ => none
  | none => none

def zRow : List Value → Option (List D)
  | [] => some []
  | v :: l => match zRow l with
    | some r => match v with
      | .slice none 0 0 => some (.fz [] :: r)
      | v => some (.sc v :: r)
    | none => none

def aMake (E : Env) (H : Heap) (t : TypeId) (l c : A) : Option (A × Heap) :=
  match E.elt t with
  | some e => match E.inf e, sv l, sv c with
    | some (n + 1, b, z), some (.int _ i), some (.int _ k) =>
      if 0 ≤ i ∧ i ≤ k ∧ k ≤ 9223372036854775807 ∧ (b : Int) * k ≤ 281474976710656 then match zRow z.cells.toList with
        | some r => some (.c (.own H.length 0 i.toNat i.toNat), H ++ [some (.rows (n + 1) (List.replicate i.toNat r))])
        | none => none
      else none
    | _, _, _ => none
  | none => none

section
variable {E : Env} {B : Base} {x : Ctx} {O : Nat → Nat → Prop} {H : Heap}

def Outs (B : Base) (x : Ctx) (v : A) (H' : Heap) (u : Value) (w' : World) : Prop := ∃ y O', y.w = w' ∧ x.Le y ∧ Rel B y O' H' ∧ VA y v u

theorem heap_new (w : World) (o : Obj) : (w.alloc o).heap[w.heap.size]? = some o := by show (w.heap.push o)[w.heap.size]? = _; simp
theorem alloc_size (w : World) (o : Obj) : (w.alloc o).heap.size = w.heap.size + 1 := by show (w.heap.push o).size = _; simp
theorem heap_old (w : World) (o : Obj) {k : Nat} (h : k < w.heap.size) : (w.alloc o).heap[k]? = w.heap[k]? := Below.heap_alloc w o k h

theorem aBox_ok (hR : Rel B x O H) {a v : A} {u : Value} {H' : Heap} (ha : VA x a u) {ty : Option TypeId} (h : aBox H a ty = some (v, H')) (t : TypeId) (hty : ∀ t', ty = some t' → t' = t) :
    Outs B x v H' (.pointer (some ⟨x.w.heap.size, 0, none⟩)) (x.w.alloc (.cells u.cells t)) := by
  unfold aBox at h
  split at h
  · rename_i cs hc
    cases h
    obtain ⟨h1, _⟩ := cellsOf_ok ha hc
    obtain ⟨y, O', e1, l1, f1, m1, L1, R1⟩ := hR.new (.box cs ty) (x.w.alloc (.cells u.cells t)) (some (x.w.heap.size, 0)) (fun k => k = x.w.heap.size) rfl rfl rfl (by rw [alloc_size]; omega)
      (fun k hk => heap_old _ _ hk) (fun k hk => by subst hk; exact ⟨Nat.le_refl _, by rw [alloc_size]; omega⟩)
      (fun y hw hle hF hμ => ⟨_, u.cells, t, hμ, rfl, by rw [hw, show ty.getD t = t by cases ty with | none => rfl | some t' => exact hty _ rfl]; exact heap_new _ _, h1.mono hle⟩)
    refine ⟨y, O', e1, l1, R1, .c _ _ (.ptr _ _ _ _ _ ⟨rfl, by rw [L1]; omega, fun s m hN => ?_⟩)⟩
    have : y.N H.length = some (0, 0) := by rw [R1.hN]; exact nOf_some (b := .box cs ty) (by simp)
    rw [this] at hN
    cases hN
    exact ⟨Nat.le_refl _, fun _ => ⟨_, _, m1, Nat.le_refl _, by rw [if_neg (by omega), Nat.sub_zero, Nat.zero_mul]⟩⟩
  · cases h

theorem aAlloc_ok (hR : Rel B x O H) {v : A} {H' : Heap} {t : TypeId} (h : aAlloc E H t = some (v, H')) :
    ∃ u w', (Instr.alloc t true (.tuple #[])).run E.P x.w = .ok u w' ∧ Outs B x v H' u w' := by
  unfold aAlloc at h
  split at h
  · rename_i s b z hi
    refine ⟨_, _, ?_, aBox_ok hR (VA.cv x z) h t (E.hty t)⟩
    simp [Instr.alloc, zero_run hi, newVar, newRow]
  · cases h

theorem fill_struct {fs : Array Field} {t : TypeId} {places : Array (Nat × Nat)} (hu : E.und t = some (.struct fs)) (hp : ∀ f off ft n, E.fld t f = some (off, ft) → E.size ft = some n → places[f]? = some (off, n)) :
    ∀ {ps : List (Nat × A)} {vs : List (Nat × Value)} {cs r : List C} {cells : Array Value}, fillC E t ps cs = some r → CsR x cs cells →
      vs.length = ps.length → (∀ (i : Nat) p, ps[i]? = some p → ∃ u, vs[i]? = some (p.1, u) ∧ VA x p.2 u) → ∃ out, Instr.fill (places[·]?) cells vs = some out ∧ CsR x r out
  | [], vs, cs, r, cells, h, hc, hl, hv => by
    have : vs = [] := List.length_eq_zero_iff.1 (by simpa using hl)
    subst this
    cases h
    exact ⟨cells, rfl, hc⟩
  | (f, a) :: ps, [], cs, r, cells, h, hc, hl, hv => by simp at hl
  | (f, a) :: ps, (g, u) :: vs, cs, r, cells, h, hc, hl, hv => by
    simp only [fillC] at h
    split at h
    · rename_i off ft hf
      split at h
      · rename_i ns n hns hn
        split at h
        · rename_i hlen
          split at h
          · rename_i r' hr
            obtain ⟨u', hu', hva⟩ := hv 0 (f, a) rfl
            simp only [List.getElem?_cons_zero, Option.some.injEq, Prod.mk.injEq] at hu'
            obtain ⟨rfl, rfl⟩ := hu'
            obtain ⟨hcs, _⟩ := cellsOf_ok hva hns
            obtain ⟨q1, q2⟩ := splC_eq hr
            have hpl := hp g off ft n hf hn
            have hsz : u.cells.size = n := by rw [hcs.1, hlen]
            have hfold : ∀ (l : List Value) (k : Nat) (cells : Array Value), off + k + l.length ≤ cells.size →
                ((l.zipIdx k).foldl (fun (cs : Array Value) (p : Value × Nat) => cs.setIfInBounds (off + p.2) p.1) cells).toList = cells.toList.take (off + k) ++ l ++ cells.toList.drop (off + k + l.length) := by
              intro l
              induction l with
              | nil => intro k cells hk; simp
              | cons v l ih =>
                intro k cells hk
                simp only [List.zipIdx_cons, List.foldl_cons]
                rw [ih (k + 1) _ (by simp at hk ⊢; omega)]
                have hk' : off + k < cells.toList.length := by simp at hk ⊢; omega
                simp only [Array.toList_setIfInBounds]
                apply List.ext_getElem?
                intro i
                rw [get_spl (by simp at hk ⊢; omega), get_spl (l := cells.toList) (ns := v :: l) (o := off + k) (by simp at hk ⊢; omega)]
                simp only [List.getElem?_set, List.length_cons]
                by_cases e1 : i < off + k
                · rw [if_pos (by omega), if_neg (by omega), if_pos e1]
                · by_cases e2 : i = off + k
                  · subst e2
                    rw [if_pos (by omega), if_pos rfl, if_pos hk', if_neg (by omega), if_pos (by omega)]
                    simp
                  · rw [if_neg (by omega), if_neg e1]
                    by_cases e3 : i < off + k + (l.length + 1)
                    · rw [if_pos (by omega), if_pos e3, show i - (off + k) = (i - (off + (k + 1))) + 1 by omega, List.getElem?_cons_succ]
                    · rw [if_neg (by omega), if_neg e3, if_neg (by omega)]
            have hfit : off + u.cells.size ≤ cells.size := by rw [hcs.1, hc.1]; exact q1
            have hnew : CsR x r' ((u.cells.zipIdx.foldl (fun cs (c, j) => cs.setIfInBounds (off + j) c) cells)) := by
              have he : (u.cells.zipIdx.foldl (fun cs (c, j) => cs.setIfInBounds (off + j) c) cells).toList = cells.toList.take off ++ u.cells.toList ++ cells.toList.drop (off + u.cells.size) := by
                have := hfold u.cells.toList 0 cells (by simpa using hfit)
                simp only [Nat.add_zero, Array.length_toList] at this
                rw [← this, ← Array.foldl_toList, Array.toList_zipIdx]
              have hg : ∀ i : Nat, (u.cells.zipIdx.foldl (fun cs (c, j) => cs.setIfInBounds (off + j) c) cells)[i]? = if i < off then cells[i]? else if i < off + u.cells.size then u.cells[i - off]? else cells[i]? := fun i => by
                rw [← Array.getElem?_toList, he, ← Array.length_toList, get_spl (by simpa using hfit)]
                simp only [Array.getElem?_toList, Array.length_toList]
              have hszz : (u.cells.zipIdx.foldl (fun cs (c, j) => cs.setIfInBounds (off + j) c) cells).size = cells.size := by
                rw [← Array.length_toList, he]; simp; omega
              refine ⟨by rw [hszz, hc.1, q2]; simp; omega, fun i c hi => ?_⟩
              rw [q2, get_spl q1] at hi
              rw [hg i, hcs.1]
              split at hi
              · rename_i h1; rw [if_pos h1]; exact hc.2 i c hi
              · rename_i h1
                rw [if_neg h1]
                split at hi
                · rename_i h2; rw [if_pos h2]; exact hcs.2 _ c hi
                · rename_i h2; rw [if_neg h2]; exact hc.2 i c hi
            obtain ⟨out, ho, hco⟩ := fill_struct hu hp h hnew (by simpa using hl) (fun i p hi => by obtain ⟨w, hw, hv'⟩ := hv (i + 1) p (by simpa using hi); exact ⟨w, by simpa using hw, hv'⟩)
            refine ⟨out, ?_, hco⟩
            simp only [Instr.fill, hpl]
            rw [if_neg (by simp [hsz]; omega)]
            exact ho
          · cases h
        · cases h
      · cases h
    · cases h

theorem aBuild_ok {t : TypeId} {ps : List (Nat × A)} {vs : List (Nat × Value)} {v : A} (hl : vs.length = ps.length) (hv : ∀ (i : Nat) p, ps[i]? = some p → ∃ u, vs[i]? = some (p.1, u) ∧ VA x p.2 u)
    (h : aBuild E t ps = some v) (hst : ∃ fs, E.und t = some (.struct fs)) (w : World) : ∃ u, (Instr.build t vs.toArray).run E.P w = .ok u w ∧ VA x v u := by
  obtain ⟨fs, hu⟩ := hst
  have hall := E.hfl t fs hu
  unfold aBuild at h
  split at h
  · rename_i s b z hi
    split at h
    · rename_i cs hcs
      split at h
      · rename_i r hr
        cases h
        obtain ⟨h1, _⟩ := cellsOf_ok (VA.cv x z) hcs
        obtain ⟨it, q1, _, _, q2⟩ := inf_run hi
        have hm : ∀ l : List Field, (∀ f ∈ l, (E.P.info? f.type).isSome = true) → ∃ pl, l.mapM (fun f => (E.P.info? f.type).map fun i => (f.offset, i.size)) = some pl ∧
            ∀ (k : Nat) f, l[k]? = some f → ∃ i, E.P.info? f.type = some i ∧ pl[k]? = some (f.offset, i.size) := by
          intro l
          induction l with
          | nil => intro _; exact ⟨[], by simp, fun k f hk => by simp at hk⟩
          | cons f l ih =>
            intro hl
            obtain ⟨i, hn⟩ := Option.isSome_iff_exists.1 (hl f (by simp))
            obtain ⟨pl, h1, h2⟩ := ih (fun f hf => hl f (by simp [hf]))
            refine ⟨(f.offset, i.size) :: pl, by simp [List.mapM_cons, hn, h1], fun k g hk => ?_⟩
            cases k with
            | zero => cases hk; exact ⟨i, hn, rfl⟩
            | succ k => exact h2 k g hk
        obtain ⟨pl, hpl, hpl2⟩ := hm fs.toList (fun f hf => hall f (by simpa using hf))
        obtain ⟨out, ho, hco⟩ := fill_struct hu (places := pl.toArray) (fun f off ft n hf hn => by
          simp only [Env.fld, hu, Option.map_eq_some_iff, Prod.mk.injEq] at hf
          obtain ⟨d, hd, rfl, rfl⟩ := hf
          obtain ⟨i, hi, hk⟩ := hpl2 f d (by simpa using hd)
          simp only [Env.size, Option.map_eq_some_iff] at hn
          obtain ⟨⟨s', b', z'⟩, hn, rfl⟩ := hn
          obtain ⟨i', hi', hs', _⟩ := inf_run hn
          rw [hi] at hi'
          cases hi'
          simp [hk, hs']) hr h1 hl hv
        refine ⟨.agg out, run_build w t _ out ?_, .agg _ _ hco⟩
        simp only [Program.built, q1, E.hund _ _ hu, q2, hpl]
        exact ho
      · cases h
    · cases h
  · cases h

end
end Go.Eng
namespace Go.Eng
open Go.RowKit
set_option linter.unusedVariables false
set_option linter.unusedSimpArgs false

theorem flat_length {α : Type} {n : Nat} : ∀ {l : List (List α)}, (∀ r ∈ l, r.length = n) → l.flatten.length = l.length * n
  | [], _ => by simp
  | r :: l, h => by
    have h1 := flat_length (n := n) (l := l) (fun r hr => h r (List.mem_cons_of_mem _ hr))
    have h2 := h r (List.mem_cons_self ..)
    simp only [List.flatten_cons, List.length_append, List.length_cons, h1, h2]
    rw [Nat.add_mul]; omega

theorem flat_get {α : Type} {n : Nat} : ∀ {l : List (List α)}, (∀ r ∈ l, r.length = n) → ∀ (j c : Nat) r, l[j]? = some r → c < n → l.flatten[j * n + c]? = r[c]?
  | [], _, j, c, r, hj, _ => by simp at hj
  | r :: l, h, 0, c, r', hj, hc => by
    cases hj
    simp only [List.flatten_cons, Nat.zero_mul, Nat.zero_add]
    rw [List.getElem?_append_left (by rw [h r (by simp)]; exact hc)]
  | r :: l, h, j + 1, c, r', hj, hc => by
    simp only [List.flatten_cons]
    have hr : r.length = n := h r (by simp)
    rw [List.getElem?_append_right (by rw [hr, Nat.add_mul]; omega), hr, ← flat_get (l := l) (fun r hr => h r (List.mem_cons_of_mem _ hr)) j c r' (by simpa using hj) hc]
    congr 1
    rw [Nat.add_mul]; omega

section
variable {E : Env} {B : Base} {x : Ctx} {O : Nat → Nat → Prop} {H : Heap}

theorem fill_rows {n : Nat} : ∀ (vs : List (Nat × Value)) (k : Nat) (cells : Array Value), (∀ (j : Nat) p, vs[j]? = some p → p.1 = k + j ∧ p.2.cells.size = n) → (k + vs.length) * n ≤ cells.size →
    ∃ out, Instr.fill (fun i => some (i * n, n)) cells vs = some out ∧ out.toList = cells.toList.take (k * n) ++ (vs.map fun p => p.2.cells.toList).flatten ++ cells.toList.drop ((k + vs.length) * n)
  | [], k, cells, h, hs => ⟨cells, rfl, by simp⟩
  | (i, v) :: vs, k, cells, h, hs => by
    obtain ⟨h1, h2⟩ := h 0 (i, v) rfl
    simp only [Nat.add_zero] at h1 h2
    subst h1
    have hs' : i * n + n + vs.length * n ≤ cells.size := by
      have : (i + (vs.length + 1)) * n = i * n + n + vs.length * n := by simp only [Nat.add_mul, Nat.one_mul]; omega
      simp only [List.length_cons] at hs; omega
    have hfold : ∀ (l : List Value) (q : Nat) (cells : Array Value), i * n + q + l.length ≤ cells.size →
        ((l.zipIdx q).foldl (fun (cs : Array Value) (p : Value × Nat) => cs.setIfInBounds (i * n + p.2) p.1) cells).toList = cells.toList.take (i * n + q) ++ l ++ cells.toList.drop (i * n + q + l.length) := by
      intro l
      induction l with
      | nil => intro q cells hk; simp
      | cons v l ih =>
        intro q cells hk
        simp only [List.zipIdx_cons, List.foldl_cons]
        rw [ih (q + 1) _ (by simp at hk ⊢; omega)]
        have hk' : i * n + q < cells.toList.length := by simp at hk ⊢; omega
        simp only [Array.toList_setIfInBounds]
        apply List.ext_getElem?
        intro j
        rw [get_spl (by simp at hk ⊢; omega), get_spl (l := cells.toList) (ns := v :: l) (o := i * n + q) (by simp at hk ⊢; omega)]
        simp only [List.getElem?_set, List.length_cons]
        by_cases e1 : j < i * n + q
        · rw [if_pos (by omega), if_neg (by omega), if_pos e1]
        · by_cases e2 : j = i * n + q
          · subst e2
            rw [if_pos (by omega), if_pos rfl, if_pos hk', if_neg (by omega), if_pos (by omega)]
            simp
          · rw [if_neg (by omega), if_neg e1]
            by_cases e3 : j < i * n + q + (l.length + 1)
            · rw [if_pos (by omega), if_pos e3, show j - (i * n + q) = (j - (i * n + (q + 1))) + 1 by omega, List.getElem?_cons_succ]
            · rw [if_neg (by omega), if_neg e3, if_neg (by omega)]
    let nx := v.cells.zipIdx.foldl (fun cs (c, j) => cs.setIfInBounds (i * n + j) c) cells
    have he : nx.toList = cells.toList.take (i * n) ++ v.cells.toList ++ cells.toList.drop (i * n + n) := by
      have := hfold v.cells.toList 0 cells (by simp [h2]; omega)
      simp only [Nat.add_zero, Array.length_toList, h2] at this
      rw [← this]
      show (v.cells.zipIdx.foldl _ cells).toList = _
      rw [← Array.foldl_toList, Array.toList_zipIdx]
    have hsz : nx.size = cells.size := by rw [← Array.length_toList, he]; simp [h2]; omega
    obtain ⟨out, ho, hout⟩ := fill_rows vs (i + 1) nx (fun j p hj => by
      obtain ⟨q1, q2⟩ := h (j + 1) p (by simpa using hj)
      exact ⟨by omega, q2⟩) (by rw [hsz]; have : (i + 1 + vs.length) * n = i * n + n + vs.length * n := by simp only [Nat.add_mul, Nat.one_mul]
                                omega)
    refine ⟨out, ?_, ?_⟩
    · simp only [Instr.fill]
      rw [if_neg (by simp [h2]; omega)]
      exact ho
    · rw [hout, he]
      have e1 : (i + 1) * n = i * n + n := by rw [Nat.add_mul, Nat.one_mul]
      have e2 : (i + ((i, v) :: vs).length) * n = i * n + n + vs.length * n := by simp only [List.length_cons, Nat.add_mul, Nat.one_mul]; omega
      have e3 : (i + 1 + vs.length) * n = i * n + n + vs.length * n := by simp only [Nat.add_mul, Nat.one_mul]
      have l1 : (cells.toList.take (i * n)).length = i * n := by simp; omega
      have l2 : (cells.toList.take (i * n) ++ v.cells.toList).length = i * n + n := by simp [h2]; omega
      have t1 : (cells.toList.take (i * n) ++ v.cells.toList ++ cells.toList.drop (i * n + n)).take (i * n + n) = cells.toList.take (i * n) ++ v.cells.toList := by
        rw [← l2]; exact List.take_left
      have t2 : (cells.toList.take (i * n) ++ v.cells.toList ++ cells.toList.drop (i * n + n)).drop (i * n + n + vs.length * n) = cells.toList.drop (i * n + n + vs.length * n) := by
        rw [List.drop_append, l2, List.drop_eq_nil_of_le (by omega), List.nil_append, List.drop_drop]
        congr 1
        omega
      rw [e1, e2, e3, t1, t2]
      simp

theorem rowsOf_ok {n : Nat} : ∀ {ps : List (Nat × A)} {k : Nat} {x : Ctx} {O : Nat → Nat → Prop} {H : Heap} {rs : List (List D)} {H' : Heap} {vs : List (Nat × Value)}, Rel B x O H → vs.length = ps.length →
    (∀ (i : Nat) p, ps[i]? = some p → ∃ u, vs[i]? = some (p.1, u) ∧ VA x p.2 u) → rowsOf H n k ps = some (rs, H') →
    ∃ y O', y.w = x.w ∧ x.Le y ∧ Rel B y O' H' ∧ rs.length = ps.length ∧ (∀ (j : Nat) p, vs[j]? = some p → p.1 = k + j ∧ p.2.cells.size = n ∧ ∀ u ∈ p.2.cells.toList, one u = true) ∧
      (∀ r ∈ rs, r.length = n) ∧ ∀ (j : Nat) (r : List D) (c : Nat) (d : D), rs[j]? = some r → r[c]? = some d → ∃ (p : Nat × Value) (u : Value), vs[j]? = some p ∧ p.2.cells[c]? = some u ∧ DR y.w y.F d u
  | [], k, x, O, H, rs, H', vs, hR, hl, hv, h => by
    cases h
    have : vs = [] := List.length_eq_zero_iff.1 (by simpa using hl)
    subst this
    exact ⟨x, O, rfl, .refl x, hR, rfl, fun j p hj => by simp at hj, fun r hr => by simp at hr, fun j r c d hj => by simp at hj⟩
  | (i, a) :: ps, k, x, O, H, rs, H', [], hR, hl, hv, h => by simp at hl
  | (i, a) :: ps, k, x, O, H, rs, H', (g, u) :: vs, hR, hl, hv, h => by
    simp only [rowsOf] at h
    split at h
    · rename_i hik
      subst hik
      split at h
      · rename_i cs hcs
        split at h
        · rename_i hlen
          split at h
          · rename_i ds H1 h1
            split at h
            · rename_i rs' H2 h2
              cases h
              obtain ⟨u', hu', hva⟩ := hv 0 (i, a) rfl
              simp only [List.getElem?_cons_zero, Option.some.injEq, Prod.mk.injEq] at hu'
              obtain ⟨rfl, rfl⟩ := hu'
              obtain ⟨hcc, hone⟩ := cellsOf_ok hva hcs
              obtain ⟨y, O1, e1, l1, R1, len1, D1⟩ := toDs_ok (vs := u.cells.toList) hR (by simp [hcc.1]) (fun q c hq => by
                obtain ⟨w, hw, hvw⟩ := hcc.2 q c hq
                exact ⟨w, by simpa using hw, hvw⟩) h1
              obtain ⟨z, O2, e2, l2, R2, len2, V2, L2, D2⟩ := rowsOf_ok R1 (by simpa using hl) (fun q p hq => by
                obtain ⟨w, hw, hvw⟩ := hv (q + 1) p (by simpa using hq)
                exact ⟨w, by simpa using hw, hvw.mono l1⟩) h2
              refine ⟨z, O2, e2.trans e1, l1.trans l2, R2, by simp [len2], fun j p hj => ?_, fun r hr => ?_, fun j r c d hj hc => ?_⟩
              · cases j with
                | zero => cases hj; exact ⟨by simp, by rw [hcc.1]; exact hlen, hone⟩
                | succ j => obtain ⟨q1, q2, q3⟩ := V2 j p (by simpa using hj); exact ⟨by omega, q2, q3⟩
              · rcases List.mem_cons.1 hr with rfl | hr
                · rw [len1]; exact hlen
                · exact L2 r hr
              · cases j with
                | zero =>
                  cases hj
                  obtain ⟨w, hw, hd⟩ := D1 c d hc
                  exact ⟨_, w, rfl, by simpa using hw, hd.mono l2.F⟩
                | succ j =>
                  obtain ⟨p, w, q1, q2, q3⟩ := D2 j r c d (by simpa using hj) hc
                  exact ⟨p, w, by simpa using q1, q2, q3⟩
            · cases h
          · cases h
        · cases h
      · cases h
    · cases h

theorem rows_new (hR : Rel B x O H) {s m : Nat} {rs : List (List D)} (cells : Array Value) (t : TypeId) (w' : World) (hw : w' = x.w.alloc (.cells cells t) ∨ w' = x.w.drew.alloc (.cells cells t)) (hs : 0 < s)
    (hl : ∀ r ∈ rs, r.length = s) (hsz : rs.length * s ≤ cells.size) (hm : rs.length = m) (cap : Nat) (hcap : m ≤ cap) (hcs : cap * s ≤ cells.size)
    (hd : ∀ j r c d, rs[j]? = some r → r[c]? = some d → ∃ u, cells[j * s + c]? = some u ∧ DR x.w x.F d u) :
    Outs B x (.c (.own H.length 0 m m)) (H ++ [some (.rows s rs)]) (.slice (some ⟨x.w.heap.size, 0, none⟩) m cap) w' := by
  have hh : w'.heap = x.w.heap.push (.cells cells t) := by rcases hw with rfl | rfl <;> rfl
  have hos : w'.os = x.w.os ∧ w'.tape = x.w.tape ∧ w'.output = x.w.output := by rcases hw with rfl | rfl <;> exact ⟨rfl, rfl, rfl⟩
  have hnew : w'.heap[x.w.heap.size]? = some (.cells cells t) := by rw [hh]; simp
  obtain ⟨y, O', e1, l1, f1, m1, L1, R1⟩ := hR.new (.rows s rs) w' (some (x.w.heap.size, 0)) (fun k => k = x.w.heap.size) hos.1 hos.2.1 hos.2.2 (by rw [hh]; simp)
    (fun k hk => by rw [hh, Array.getElem?_push, if_neg (by omega)]) (fun k hk => by subst hk; exact ⟨Nat.le_refl _, by rw [hh]; simp⟩)
    (fun y hw' hle hF hμ => ⟨hs, hl, .inr ⟨_, 0, cells, t, hμ, rfl, by rw [hw']; exact hnew, Nat.zero_le _, by simpa using hsz, fun j r c d _ hj hc => by
      obtain ⟨u, hu, hv⟩ := hd j r c d hj hc
      exact ⟨u, by simpa using hu, hv.mono hle.F⟩⟩⟩)
  refine ⟨y, O', e1, l1, R1, .c _ _ (.own _ _ _ _ _ ⟨rfl, by rw [L1]; omega, fun s' m' hN => ?_⟩)⟩
  have : y.N H.length = some (s, rs.length) := by rw [R1.hN]; exact nOf_some (b := .rows s rs) (by simp)
  rw [this] at hN
  cases hN
  refine ⟨by omega, fun _ => ?_⟩
  rw [m1]
  exact ⟨_, cap, cells.size, rfl, .inr (by simp), Nat.le_refl _, by omega, by omega, hcap, by unfold bsz; rw [e1, hnew], by simpa using hcs⟩

theorem aBuildSlice_ok (hR : Rel B x O H) {t : TypeId} {len : Nat} {ps : List (Nat × A)} {vs : List (Nat × Value)} {v : A} {H' : Heap} (hl : vs.length = ps.length)
    (hv : ∀ (i : Nat) p, ps[i]? = some p → ∃ u, vs[i]? = some (p.1, u) ∧ VA x p.2 u) (h : aBuildSlice E H t len ps = some (v, H')) :
    ∃ u w', (Instr.buildSlice t len vs.toArray).run E.P x.w = .ok u w' ∧ Outs B x v H' u w' := by
  have et : ∀ {t e}, E.elt t = some e → E.und t = some (.slice e) := fun h => by unfold Env.elt at h; split at h; (cases h; assumption); cases h
  unfold aBuildSlice at h
  split at h
  · rename_i e he
    split at h
    · rename_i n hn
      split at h
      · rename_i hc
        obtain ⟨rfl, hbig⟩ := hc
        split at h
        · rename_i rs H1 hrs
          cases h
          have hinf : ∃ b z, E.inf e = some (n + 1, b, z) := by
            simp only [Env.size, Option.map_eq_some_iff] at hn
            obtain ⟨⟨s, b, z⟩, h1, h2⟩ := hn
            have h3 : s = n + 1 := h2
            subst h3
            exact ⟨b, z, h1⟩
          obtain ⟨b, z, hi⟩ := hinf
          obtain ⟨y, O1, e1, l1, R1, len1, V1, L1, D1⟩ := rowsOf_ok hR hl hv hrs
          let zero : Array Value := if ps.length * (n + 1) = 0 then #[] else z.cells
          obtain ⟨out, ho, hout⟩ := fill_rows (n := n + 1) vs 0 ((Array.range (ps.length * (n + 1))).map (zero[· % zero.size]!)) (fun j p hj => let ⟨q1, q2, _⟩ := V1 j p hj; ⟨q1, q2⟩) (by simp [hl])
          have hrun : (Instr.buildSlice t ps.length vs.toArray).run E.P x.w = .ok (.slice (some ⟨x.w.heap.size, 0, none⟩) ps.length ps.length) (x.w.alloc (.cells out e)) := by
            by_cases h0 : ps.length * (n + 1) = 0
            · simp only [zero, h0, if_true] at ho
              simp only [Instr.buildSlice, Sem.run_bind, und_run (et he), Env.size_run hn, Result.andThen_ok, Nat.succ_eq_add_one]
              rw [if_neg (by omega)]
              simp only [h0, if_true, pure_bind, Sem.run_bind, Sem.run_pure, Result.andThen_ok, ho]
              simp [newRow]
            · simp only [zero, h0, if_false] at ho
              simp only [Instr.buildSlice, Sem.run_bind, und_run (et he), Env.size_run hn, Result.andThen_ok, Nat.succ_eq_add_one]
              rw [if_neg (by omega)]
              simp only [h0, if_false, pure_bind, Sem.run_bind, Sem.run_pure, Result.andThen_ok, zero_run hi, ho]
              simp [newRow]
          have hflat : out.toList = (vs.map fun p => p.2.cells.toList).flatten := by
            rw [hout]
            simp [hl]
          have hrow : ∀ r ∈ (vs.map fun p => p.2.cells.toList), r.length = n + 1 := fun r hr => by
            obtain ⟨p, hp, rfl⟩ := List.mem_map.1 hr
            obtain ⟨j, hj⟩ := List.getElem?_of_mem hp
            simpa using (V1 j p hj).2.1
          have hsz : out.size = ps.length * (n + 1) := by
            rw [← Array.length_toList, hflat, flat_length hrow]; simp [hl]
          have key := rows_new R1 (m := ps.length) (rs := rs) (s := n + 1) out e (y.w.alloc (.cells out e)) (.inl rfl) (by omega) L1 (by rw [hsz, len1]; exact Nat.le_refl _) len1 ps.length (Nat.le_refl _) (by rw [hsz]; exact Nat.le_refl _)
            (fun j r c d hj hc => by
              obtain ⟨p, u, q1, q2, q3⟩ := D1 j r c d hj hc
              refine ⟨u, ?_, q3⟩
              have hc' : c < n + 1 := by rw [← L1 r (List.mem_of_getElem? hj)]; exact (List.getElem?_eq_some_iff.1 hc).1
              rw [← Array.getElem?_toList, hflat, flat_get hrow j c p.2.cells.toList (by simp [q1]) hc']
              simpa using q2)
          refine ⟨_, _, hrun, ?_⟩
          obtain ⟨z', O2, e2, l2, R2, V2⟩ := key
          exact ⟨z', O2, by rw [e2, e1], l1.trans l2, R2, by rw [← e1]; exact V2⟩
        · cases h
      · cases h
    · cases h
  · cases h

end
end Go.Eng
namespace Go.Eng
open Go.RowKit
set_option linter.unusedVariables false
set_option linter.unusedSimpArgs false

def aStore (E : Env) (H : Heap) (t : TypeId) (a v : A) : Option Heap :=
  match cellsOf v, E.size t with
  | some ns, some n => if ns.length = n then match a with
      | .c (.ptr id j off m) => match hG H id with
        | some (.box cs ty) => if j = 0 ∧ m = 0 then match splC off ns cs with
            | some r => some (hP H id (some (.box r ty)))
            | none => none
          else none
        | some (.rows _ _ _) => match toDs H ns with
          | some (ds, H1) => match hG H1 id with
            | some (.rows s rs ty) => if m = rs.length ∧ j < rs.length then match splC off ds (rowsAt rs j) with
                | some r => some (hP H1 id (some (.rows s (rs.set j r) ty)))
                | none => none
              else none
            | _ => none
          | none => none
        | _ => none
      | _ => none
    else none
  | _, _ => none

def xsOf (H : Heap) : A → Option (List (List D))
  | .c (.d (.fz rs)) => some rs
  | .c .nils => some []
  | .c (.own id off len n) => match hG H id with
    | some (.rows s rs _) => if n = rs.length ∧ off + len ≤ n then some (subR off len n rs) else none
    | _ => none
  | .c (.d (.sc (.string s))) => some ((bl s).map fun b => [.sc (.int .u8 b.toNat)])
  | _ => none

def okTy : Option TypeId → TypeId → Bool
  | none, _ => true
  | some t, e => t == e
theorem okTy_ok {ty : Option TypeId} {e : TypeId} (h : okTy ty e = true) : ty.getD e = e := by
  cases ty with
  | none => rfl
  | some t => exact of_decide_eq_true h

def aApp (E : Env) (H : Heap) (t t2 : TypeId) (s y : A) : Option (A × Heap) :=
  match E.elt t with
  | some e => match E.inf e with
    | some (sz + 1, by_, _) => if E.noInt t2 = true then match xsOf H y with
      | some xs => match s with
        | .c .nils => if (∀ r ∈ xs, r.length = sz + 1) ∧ xs.length ≤ 9223372036854775807 ∧ xs.length * by_ ≤ 140737488355328 then
            some (.c (.own H.length 0 xs.length xs.length), H ++ [some (.rows (sz + 1) xs)]) else none
        | .c (.own id off len n) => match hG H id with
          | some (.rows z rs ty) => if okTy ty e = true ∧ (∀ r ∈ xs, r.length = sz + 1) ∧ n = rs.length ∧ z = sz + 1 ∧ off + len = n ∧ len + xs.length ≤ 9223372036854775807 ∧ (len + xs.length) * by_ ≤ 140737488355328 then
              some (.c (.own id off (len + xs.length) (n + xs.length)), hP H id (some (.rows z (rs ++ xs) ty))) else none
          | _ => none
        | _ => none
      | none => none
    else none
    | _ => none
  | none => none

section
variable {E : Env} {B : Base} {x : Ctx} {O : Nat → Nat → Prop} {H : Heap}

theorem zRow_ok (w : World) (F : Nat → Prop) : ∀ {l : List Value} {r : List D}, zRow l = some r → allOne l = true → r.length = l.length ∧ ∀ (i : Nat) d, r[i]? = some d → ∃ u, l[i]? = some u ∧ DR w F d u
  | [], r, h, _ => by cases h; simp
  | v :: l, r, h, ho => by
    simp only [allOne, Bool.and_eq_true] at ho
    simp only [zRow] at h
    split at h
    · rename_i r' hr
      obtain ⟨h1, h2⟩ := zRow_ok w F hr ho.2
      have h' : ∃ d, r = d :: r' ∧ DR w F d v := by
        split at h
        · cases h; exact ⟨_, rfl, .nil _ _⟩
        · cases h; exact ⟨_, rfl, .sc _ ho.1⟩
      obtain ⟨d, rfl, hd⟩ := h'
      refine ⟨by simp [h1], fun i d' hd' => ?_⟩
      cases i with
      | zero => cases hd'; exact ⟨v, rfl, hd⟩
      | succ i => exact h2 i d' (by simpa using hd')
    · cases h

theorem aMake_ok (hR : Rel B x O H) {t : TypeId} {l c v : A} {p q : Value} {H' : Heap} (hl : VA x l p) (hc : VA x c q) (h : aMake E H t l c = some (v, H')) :
    ∃ u w', (Instr.makeSlice t p q).run E.P x.w = .ok u w' ∧ Outs B x v H' u w' := by
  have et : ∀ {t e}, E.elt t = some e → E.und t = some (.slice e) := fun h => by unfold Env.elt at h; split at h; (cases h; assumption); cases h
  unfold aMake at h
  split at h
  · rename_i e he
    split at h
    · rename_i n b z k1 i k2 k hi h1 h2
      obtain ⟨rfl, _⟩ := sv_eq h1 hl
      obtain ⟨rfl, _⟩ := sv_eq h2 hc
      split at h
      · rename_i hcnd
        obtain ⟨h0, hik, hk, hb⟩ := hcnd
        split at h
        · rename_i r hr
          cases h
          obtain ⟨it, q1, q2, q3, q4⟩ := inf_run hi
          obtain ⟨hz1, hz2⟩ := E.hz _ _ _ _ hi
          obtain ⟨r1, r2⟩ := zRow_ok x.w x.F hr hz2
          have hr' := run_make (P := E.P) x.w t e it z (E.hund _ _ (et he)) q1 q4 k1 k2 i k h0 hik (by rw [q3]; exact hb) hk
          refine ⟨_, _, hr', ?_⟩
          rw [q2]
          have hki : i.toNat ≤ k.toNat := by omega
          refine rows_new hR (m := i.toNat) (s := n + 1) (rs := List.replicate i.toNat r) _ e _ (.inl rfl) (by omega) (fun r' hr' => ?_) ?_ (by simp) k.toNat hki (by rw [size_madeCells]; exact Nat.le_refl _) (fun j r' c d hj hd => ?_)
          · rw [(List.mem_replicate.1 hr').2, r1]; simpa using hz1
          · rw [size_madeCells, List.length_replicate]; exact Nat.mul_le_mul_right _ hki
          · have hji : j < i.toNat := by have := (List.getElem?_eq_some_iff.1 hj).1; simpa using this
            have hre : r' = r := by
              rw [List.getElem?_replicate, if_pos hji] at hj
              exact (Option.some.inj hj).symm
            subst hre
            obtain ⟨u, hu, hdr⟩ := r2 c d hd
            have hc : c < n + 1 := by have := (List.getElem?_eq_some_iff.1 hd).1; rw [r1] at this; simpa [hz1] using this
            refine ⟨u, ?_, hdr⟩
            have hlt : j * (n + 1) + c < k.toNat * (n + 1) := by
              have : (j + 1) * (n + 1) ≤ k.toNat * (n + 1) := Nat.mul_le_mul_right _ (by omega)
              rw [Nat.add_mul, Nat.one_mul] at this
              omega
            have hmod : (j * (n + 1) + c) % (n + 1) = c := by rw [Nat.add_comm, Nat.add_mul_mod_self_right, Nat.mod_eq_of_lt hc]
            have hcz : c < z.cells.size := by rw [hz1]; exact hc
            have hu' : z.cells[c] = u := by
              have : z.cells[c]? = some u := by simpa using hu
              rw [Array.getElem?_eq_getElem hcz] at this
              exact Option.some.inj this
            simp [madeCells, hlt, hz1, hmod]
            rw [getElem!_pos z.cells c hcz, hu']
        · cases h
      · cases h
    · cases h
  · cases h

theorem setRow_size (w : World) (g : Nat) (cs : Array Value) : (w.setRow g cs).heap.size = w.heap.size := by simp [World.setRow]

theorem get_spl_arr {vs ns : List Value} {off i : Nat} (h : off + ns.length ≤ vs.length) : (vs.take off ++ ns ++ vs.drop (off + ns.length)).toArray[i]? = if i < off then vs[i]? else if i < off + ns.length then ns[i - off]? else vs[i]? := by
  rw [List.getElem?_toArray, get_spl h]

theorem CsR.spl {cs ns r : List C} {off : Nat} {vs us : Array Value} (hr : splC off ns cs = some r) (hc : CsR x cs vs) (hn : CsR x ns us) :
    CsR x r (vs.toList.take off ++ us.toList ++ vs.toList.drop (off + us.toList.length)).toArray := by
  obtain ⟨q1, q2⟩ := splC_eq hr
  have h1 : off + us.toList.length ≤ vs.toList.length := by simp [hn.1, hc.1]; exact q1
  refine ⟨by rw [q2]; simp [hn.1, hc.1], fun i c hi => ?_⟩
  rw [get_spl_arr h1]
  rw [q2, get_spl q1] at hi
  simp only [Array.length_toList, hn.1, Array.getElem?_toList]
  split at hi
  · rename_i h; rw [if_pos h]; exact hc.2 i c hi
  · rename_i h
    rw [if_neg h]
    split at hi
    · rename_i h'; rw [if_pos h']; exact hn.2 _ c hi
    · rename_i h'; rw [if_neg h']; exact hc.2 i c hi

theorem aStore_ok (hR : Rel B x O H) {t : TypeId} {a v : A} {p u : Value} {H' : Heap} (ha : VA x a p) (hv : VA x v u) (h : aStore E H t a v = some H') :
    ∃ w', (Instr.storeAt t p u).run E.P x.w = .ok () w' ∧ ∃ y O', y.w = w' ∧ x.Le y ∧ Rel B y O' H' := by
  unfold aStore at h
  split at h
  · rename_i ns n hns hn
    split at h
    · rename_i hlen
      obtain ⟨hcn, hone⟩ := cellsOf_ok hv hns
      have hsz : u.cells.size = n := by rw [hcn.1, hlen]
      have hone' : ∀ w ∈ u.cells.toList, w.oneCell' = true := fun w hw => one_oneCell (hone w hw)
      split at h
      · rename_i id j off m
        cases ha with | c _ _ ha => cases ha with | ptr _ _ _ _ _ ha =>
        split at h
        · rename_i cs ty hb
          split at h
          · rename_i hj
            obtain ⟨rfl, rfl⟩ := hj
            split at h
            · rename_i r hr
              cases h
              have hb' := hG_some hb
              obtain ⟨s, b, lo, hN, hμ, hlo, rfl, hne⟩ := ptr_ok hR ha (by simp [livePtr, hb])
              obtain ⟨b', vs, tt, hμ', hO, hh, hcs⟩ := hR.blk _ _ hb'
              rw [hμ] at hμ'
              cases hμ'
              obtain ⟨q1, q2⟩ := splC_eq hr
              have hrun := run_storeCells_at E.P b off (ty.getD tt) u.cells.toList 0 vs x.w hh (by simp [hsz, hcs.1, ← hlen]; exact q1) hone'
              simp only [Nat.add_zero] at hrun
              refine ⟨x.w.setRow b (vs.toList.take off ++ u.cells.toList ++ vs.toList.drop (off + u.cells.toList.length)).toArray, ?_, ?_⟩
              · simp only [Instr.storeAt, Instr.sureAddr, pure_bind, storeVar, Sem.run_bind, Env.size_run hn, Result.andThen_ok, hsz, ne_eq, not_true, if_false, Nat.zero_mul, Nat.zero_sub, Nat.zero_add]
                exact hrun
              · obtain ⟨y, O', e1, l1, f1, m1, R1⟩ := hR.upd hb' (b' := .box r ty) (x.w.setRow b (vs.toList.take off ++ u.cells.toList ++ vs.toList.drop (off + u.cells.toList.length)).toArray) (some (b, 0)) (O id) rfl rfl rfl (by rw [setRow_size]; exact Nat.le_refl _)
                  (fun k hk hno => setRow_other _ _ _ _ (fun e => hno (e ▸ hO))) (fun k hk => ⟨.inl hk, by rw [setRow_size]; exact (hR.own id k hk).1⟩)
                  ⟨rfl, Nat.le_refl _, fun _ => ⟨hμ.symm, fun g lo hg => by
                    rw [hμ] at hg
                    cases hg
                    unfold bsz
                    rw [setRow_heap _ _ _ _ _ _ hh, hh]
                    simp [hsz]
                    have := hcs.1
                    omega⟩⟩
                  (fun y hw hle hF hμ' => ⟨b, _, tt, hμ', hO, by rw [hw]; exact setRow_heap _ _ _ _ _ _ hh, (CsR.spl hr hcs hcn).mono hle⟩)
                exact ⟨y, O', e1, l1, by rw [hP_eq]; exact R1⟩
            · cases h
          · cases h
        · rename_i s0 rs0 tyB hb0
          split at h
          · rename_i ds H1 hds
            obtain ⟨y, O1, e1, l1, R1, len1, D1⟩ := toDs_ok (vs := u.cells.toList) hR (by simp [hcn.1]) (fun q c hq => by
                obtain ⟨w, hw, hvw⟩ := hcn.2 q c hq
                exact ⟨w, by simpa using hw, hvw⟩) hds
            split at h
            · rename_i s rs ty hb
              split at h
              · rename_i hj
                obtain ⟨rfl, hj⟩ := hj
                split at h
                · rename_i r hr
                  cases h
                  have hb' := hG_some hb
                  have ha' := ha.mono l1
                  obtain ⟨s', b, lo, hN, hμ, hlo, rfl, hne⟩ := ptr_ok R1 ha' (by simp [livePtr, hb])
                  have hss : s' = s := by
                    rw [R1.hN, nOf_some hb'] at hN
                    simp only [Blk.n, Option.some.injEq, Prod.mk.injEq] at hN
                    exact hN.1.symm
                  subst hss
                  obtain ⟨hs0, hrs, hbk⟩ := R1.blk _ _ hb'
                  rcases hbk with ⟨hn', _⟩ | ⟨b', lo', vs, tt, hμ', hO, hh, hl1, hl2, hcs⟩
                  · rw [hn'] at hμ; cases hμ
                  · rw [hμ] at hμ'
                    cases hμ'
                    obtain ⟨q1, q2⟩ := splC_eq hr
                    have hrow := rowsAt_get hj
                    have hrl : (rowsAt rs j).length = s' := hrs _ (List.mem_of_getElem? hrow)
                    have hdl : ds.length = u.cells.size := by rw [len1, hcn.1]
                    have hjj : (j - lo) * s' + s' ≤ (rs.length - lo) * s' := by
                      have : (j - lo + 1) * s' ≤ (rs.length - lo) * s' := Nat.mul_le_mul_right _ (by omega)
                      rw [Nat.add_mul, Nat.one_mul] at this
                      exact this
                    have hfit : (j - lo) * s' + off + u.cells.size ≤ vs.size := by rw [hrl, hdl] at q1; omega
                    have hrun := run_storeCells_at E.P b ((j - lo) * s' + off) (ty.getD tt) u.cells.toList 0 vs y.w hh (by simpa using hfit) hone'
                    simp only [Nat.add_zero] at hrun
                    refine ⟨y.w.setRow b (vs.toList.take ((j - lo) * s' + off) ++ u.cells.toList ++ vs.toList.drop ((j - lo) * s' + off + u.cells.toList.length)).toArray, ?_, ?_⟩
                    · simp only [Instr.storeAt, Instr.sureAddr, pure_bind, storeVar, Sem.run_bind, Env.size_run hn, Result.andThen_ok, hsz, ne_eq, not_true, if_false]
                      rw [← e1]
                      exact hrun
                    · obtain ⟨z, O', e2, l2, f2, m2, R2⟩ := R1.upd hb' (b' := .rows s' (rs.set j r) ty) (y.w.setRow b (vs.toList.take ((j - lo) * s' + off) ++ u.cells.toList ++ vs.toList.drop ((j - lo) * s' + off + u.cells.toList.length)).toArray) (some (b, lo)) (O1 id) rfl rfl rfl (by rw [setRow_size]; exact Nat.le_refl _)
                        (fun k hk hno => setRow_other _ _ _ _ (fun e => hno (e ▸ hO))) (fun k hk => ⟨.inl hk, by rw [setRow_size]; exact (R1.own id k hk).1⟩)
                        ⟨rfl, by simp [Blk.n], fun _ => ⟨hμ.symm, fun g lo2 hg => by
                          rw [hμ] at hg
                          cases hg
                          unfold bsz
                          rw [setRow_heap _ _ _ _ _ _ hh, hh]
                          simp [hsz]
                          omega⟩⟩
                        (fun z hw hle hF hμ' => by
                          have hrl' : r.length = s' := by rw [q2]; simp; omega
                          refine ⟨hs0, fun r' hr' => ?_, .inr ⟨b, lo, _, tt, hμ', hO, by rw [hw]; exact setRow_heap _ _ _ _ _ _ hh, by simpa using hl1, by simp; omega, fun i r' c d hi hr' hd => ?_⟩⟩
                          · rcases List.mem_or_eq_of_mem_set hr' with h | h
                            · exact hrs _ h
                            · rw [h]; exact hrl'
                          · have hfit' : (j - lo) * s' + off + u.cells.toList.length ≤ vs.toList.length := by simpa using hfit
                            rw [get_spl_arr hfit']
                            simp only [Array.length_toList, Array.getElem?_toList]
                            rw [List.getElem?_set] at hr'
                            have hc : c < s' := by
                              have h1 := (List.getElem?_eq_some_iff.1 hd).1
                              split at hr'
                              · rename_i e
                                simp only [← e, hj, if_true, Option.some.injEq] at hr'
                                rw [← hr'] at h1
                                omega
                              · rw [← hrs _ (List.mem_of_getElem? hr')]; exact h1
                            by_cases e : j = i
                            · subst e
                              rw [if_pos rfl, if_pos hj] at hr'
                              cases hr'
                              rw [q2, get_spl q1] at hd
                              split at hd
                              · rename_i h1
                                rw [if_pos (by omega)]
                                obtain ⟨uu, hu, hdr⟩ := hcs j _ c d hi hrow hd
                                exact ⟨uu, hu, hdr.mono hle.F⟩
                              · rename_i h1
                                rw [if_neg (by omega)]
                                split at hd
                                · rename_i h2
                                  rw [if_pos (by rw [hdl] at h2; omega)]
                                  obtain ⟨uu, hu, hdr⟩ := D1 _ d hd
                                  refine ⟨uu, ?_, hdr.mono hle.F⟩
                                  rw [show (j - lo) * s' + c - ((j - lo) * s' + off) = c - off by omega]
                                  simpa using hu
                                · rename_i h2
                                  rw [if_neg (by rw [hdl] at h2; omega)]
                                  obtain ⟨uu, hu, hdr⟩ := hcs j _ c d hi hrow hd
                                  exact ⟨uu, hu, hdr.mono hle.F⟩
                            · rw [if_neg e] at hr'
                              obtain ⟨uu, hu, hdr⟩ := hcs i r' c d hi hr' hd
                              refine ⟨uu, ?_, hdr.mono hle.F⟩
                              rw [hrl, hdl] at q1
                              by_cases h1 : i < j
                              · have : (i - lo) * s' + s' ≤ (j - lo) * s' := by
                                  have : (i - lo + 1) * s' ≤ (j - lo) * s' := Nat.mul_le_mul_right _ (by omega)
                                  rw [Nat.add_mul, Nat.one_mul] at this
                                  exact this
                                rw [if_pos (by omega)]
                                exact hu
                              · have : (j - lo) * s' + s' ≤ (i - lo) * s' := by
                                  have : (j - lo + 1) * s' ≤ (i - lo) * s' := Nat.mul_le_mul_right _ (by omega)
                                  rw [Nat.add_mul, Nat.one_mul] at this
                                  exact this
                                rw [if_neg (by omega), if_neg (by omega)]
                                exact hu)
                      exact ⟨z, O', e2, l1.trans l2, by rw [hP_eq]; exact R2⟩
                · cases h
              · cases h
            · cases h
          · cases h
        · cases h
      · cases h
    · cases h
  · cases h

end
end Go.Eng
namespace Go.Eng
open Go.RowKit
set_option linter.unusedVariables false
set_option linter.unusedSimpArgs false

section
variable {E : Env} {B : Base} {x : Ctx} {O : Nat → Nat → Prop} {H : Heap}

theorem cells_list {w : World} {b o s : Nat} {xs : List (List D)} {F : Nat → Prop} (hs : ∀ r ∈ xs, r.length = s)
    (h : ∀ (i : Nat) (r : List D) (c : Nat) (d : D), xs[i]? = some r → r[c]? = some d → ∃ u, w.cell? ⟨b, o + (i * s + c), none⟩ = some u ∧ DR w F d u) :
    ∃ news : List Value, news.length = xs.length * s ∧ (∀ (j : Nat) v, news[j]? = some v → w.cell? ⟨b, o + j, none⟩ = some v) ∧ (∀ v ∈ news, one v = true) ∧
      ∀ (i : Nat) (r : List D) (c : Nat) (d : D), xs[i]? = some r → r[c]? = some d → ∃ u, news[i * s + c]? = some u ∧ DR w F d u := by
  have key : ∀ j, j < xs.length * s → ∃ u d, w.cell? ⟨b, o + j, none⟩ = some u ∧ DR w F d u := fun j hj => by
    have hs0 : 0 < s := by rcases Nat.eq_zero_or_pos s with h | h; (subst h; simp at hj); exact h
    have hi : j / s < xs.length := Nat.div_lt_of_lt_mul (by rw [Nat.mul_comm]; exact hj)
    have hrow := rowsAt_get hi
    have hc : j % s < (rowsAt xs (j / s)).length := by rw [hs _ (List.mem_of_getElem? hrow)]; exact Nat.mod_lt _ hs0
    obtain ⟨u, h1, h2⟩ := h (j / s) _ (j % s) _ hrow (List.getElem?_eq_getElem hc)
    refine ⟨u, _, ?_, h2⟩
    have e : j / s * s + j % s = j := by rw [Nat.mul_comm]; exact Nat.div_add_mod j s
    rwa [e] at h1
  refine ⟨(List.range (xs.length * s)).map fun j => (w.cell? ⟨b, o + j, none⟩).getD undef, by simp, fun j v hj => ?_, fun v hv => ?_, fun i r c d hi hd => ?_⟩
  · have hlt : j < xs.length * s := by have := (List.getElem?_eq_some_iff.1 hj).1; simpa using this
    obtain ⟨u, d, h1, h2⟩ := key j hlt
    simp [hlt, h1] at hj
    rw [h1, hj]
  · simp only [List.mem_map, List.mem_range] at hv
    obtain ⟨j, hj, rfl⟩ := hv
    obtain ⟨u, d, h1, h2⟩ := key j hj
    rw [h1]; exact h2.one
  · obtain ⟨u, h1, h2⟩ := h i r c d hi hd
    refine ⟨u, ?_, h2⟩
    have hil : i < xs.length := (List.getElem?_eq_some_iff.1 hi).1
    have hcl : c < s := by rw [← hs _ (List.mem_of_getElem? hi)]; exact (List.getElem?_eq_some_iff.1 hd).1
    have hlt : i * s + c < xs.length * s := by
      have : (i + 1) * s ≤ xs.length * s := Nat.mul_le_mul_right _ hil
      rw [Nat.add_mul, Nat.one_mul] at this
      omega
    simp [hlt, h1]

theorem firstCells_zero {P : Program} (s : Nat) (a : Option Addr) (l cap : Nat) (w : World) : (Builtin.firstCells s 0 (.slice a l cap)).run P w = .ok #[] w := by
  cases a <;> simp [Builtin.firstCells, loadCells, loadCellsFrom]

theorem xsOf_ok (hR : Rel B x O H) {y : A} {u : Value} {xs : List (List D)} {s : Nat} (hs : ∀ r ∈ xs, r.length = s) (hs0 : 0 < s) (ha : VA x y u) (h : xsOf H y = some xs) :
    ∃ news : List Value, Builtin.lenOf u = pure xs.length ∧ (∀ w', w'.heap = x.w.heap → (Builtin.firstCells s xs.length u).run E.P w' = .ok news.toArray w') ∧ news.length = xs.length * s ∧
      (∀ v ∈ news, one v = true) ∧ ∀ (i : Nat) (r : List D) (c : Nat) (d : D), xs[i]? = some r → r[c]? = some d → ∃ uu, news[i * s + c]? = some uu ∧ DR x.w x.F d uu := by
  have cell' : ∀ {w' : World}, w'.heap = x.w.heap → ∀ a, w'.cell? a = x.w.cell? a := fun h a => by unfold World.cell?; rw [h]
  unfold xsOf at h
  split at h
  · cases h
    cases ha with | c _ _ ha => cases ha with | d _ _ ha => cases ha with
    | nil a cap => exact ⟨[], rfl, fun w' _ => firstCells_zero _ _ _ _ _, by simp, by simp, fun i r c d hi => by simp at hi⟩
    | fz _ b o cap s' uu hcap hss hF hcc hd =>
      by_cases hne : xs = []
      · subst hne
        exact ⟨[], rfl, fun w' _ => firstCells_zero _ _ _ _ _, by simp, by simp, fun i r c d hi => by simp at hi⟩
      · have e : s' = s := by
          obtain ⟨r, hr⟩ := List.exists_mem_of_ne_nil _ hne
          rw [← hs r hr, hss r hr]
        subst e
        obtain ⟨news, n1, n2, n3, n4⟩ := cells_list hs (fun i r c d hi hd' => ⟨_, hcc i r c d hi hd', hd i r c d hi hd'⟩)
        refine ⟨news, rfl, fun w' hw => run_firstCells_some w' s' xs.length _ _ _ news n1 (fun j v hj => ?_), n1, n3, n4⟩
        rw [add_off, cell' hw]
        exact n2 j v hj
  · cases h
    cases ha with | c _ _ ha => cases ha with | nils =>
    exact ⟨[], rfl, fun w' _ => firstCells_zero _ _ _ _ _, by simp, by simp, fun i r c d hi => by simp at hi⟩
  · rename_i id off len n
    split at h
    · rename_i z rs tyB hb
      split at h
      · rename_i hc
        cases h
        obtain ⟨rfl, hle⟩ := hc
        have hb' := hG_some hb
        cases ha with | c _ _ ha => cases ha with | own _ _ _ _ _ ha =>
        have hN : x.N id = some (z, rs.length) := by rw [hR.hN]; exact nOf_some hb'
        have hv := (ha.2.2 z _ hN).2 rfl
        rw [subR_eq rfl hle] at hs ⊢
        have hlen : ((rs.drop off).take len).length = len := by simp; omega
        obtain ⟨h0, hrs, hbk⟩ := hR.blk _ _ hb'
        split at hv
        · obtain ⟨rfl, rfl, rfl, _⟩ := hv
          simp only [List.take_zero] at hs ⊢
          exact ⟨[], rfl, fun w' _ => firstCells_zero _ _ _ _ _, by simp, by simp, fun i r c d hi => by simp at hi⟩
        · rename_i b lo hμ
          obtain ⟨a, cap, sz, rfl, ha2, hlo, q1, q2, q3, q4, q5⟩ := hv
          by_cases hl : len = 0
          · subst hl
            simp only [List.take_zero] at hs ⊢
            exact ⟨[], rfl, fun w' _ => firstCells_zero _ _ _ _ _, by simp, by simp, fun i r c d hi => by simp at hi⟩
          · have ha' := ha2.resolve_left (by omega)
            subst ha'
            rcases hbk with ⟨hn, _⟩ | ⟨b', lo', vs, t, hμ', hO, hh, hl1, hl2, hcs⟩
            · rw [hn] at hμ; cases hμ
            · rw [hμ] at hμ'
              cases hμ'
              have e : z = s := by
                obtain ⟨r, hr⟩ := List.exists_mem_of_ne_nil _ (show (rs.drop off).take len ≠ [] from fun hn => by rw [hn] at hlen; simp at hlen; omega)
                rw [← hs r hr, hrs r (List.mem_of_mem_drop (List.mem_of_mem_take hr))]
              subst e
              have key : ∀ (i : Nat) (r : List D) (c : Nat) (d : D), ((rs.drop off).take len)[i]? = some r → r[c]? = some d → ∃ u, x.w.cell? ⟨b, (off - lo) * z + (i * z + c), none⟩ = some u ∧ DR x.w x.F d u := fun i r c d hi hd => by
                have hi2 : i < len := by have := (List.getElem?_eq_some_iff.1 hi).1; omega
                rw [List.getElem?_take, if_pos hi2, List.getElem?_drop] at hi
                obtain ⟨u, hu, hd'⟩ := hcs (off + i) r c d (by omega) hi hd
                refine ⟨u, ?_, hd'⟩
                simp only [World.cell?, hh]
                have e : (off + i - lo) * z = (off - lo) * z + i * z := by rw [← Nat.add_mul]; congr 1; omega
                rw [e, Nat.add_assoc] at hu
                simpa using hu
              obtain ⟨news, n1, n2, n3, n4⟩ := cells_list hs key
              rw [hlen] at n1 ⊢
              refine ⟨news, rfl, fun w' hw => run_firstCells_some w' z len _ _ _ news n1 (fun j v hj => ?_), n1, n3, n4⟩
              rw [add_off, cell' hw]
              exact n2 j v hj
      · cases h
    · cases h
  · rename_i st
    cases h
    cases ha with | c _ _ ha => cases ha with | d _ _ ha => cases ha with | sc =>
    by_cases hne : (bl st) = []
    · refine ⟨[], ?_, fun w' _ => ?_, by simp [hne], by simp, fun i r c d hi => by simp [hne] at hi⟩
      · simp [Builtin.lenOf, size_bl]
      · simp [Builtin.firstCells, hne]
    · have e : s = 1 := by
        obtain ⟨b, hb⟩ := List.exists_mem_of_ne_nil _ hne
        exact (hs _ (List.mem_map.2 ⟨b, hb, rfl⟩)).symm
      subst e
      refine ⟨(bl st).map fun b => .int .u8 b.toNat, by simp [Builtin.lenOf, size_bl], fun w' _ => ?_, by simp, by simp [one], fun i r c d hi hd => ?_⟩
      · simp only [Builtin.firstCells, List.length_map]
        have : (st.extract 0 (bl st).length) = st := by rw [← size_bl]; simp
        rw [this]
        simp [bl]
        apply Array.ext'
        simp
      · simp only [List.getElem?_map, Option.map_eq_some_iff] at hi
        obtain ⟨b, hb, rfl⟩ := hi
        cases c with
        | zero =>
          cases hd
          exact ⟨.int .u8 b.toNat, by simp [hb], .sc _ rfl⟩
        | succ c => simp at hd
  · cases h

theorem app_zero {t t2 ty e : TypeId} {sz by_ : Nat} {z : Value} (ht : E.und t = some (.slice e)) (hi : E.inf e = some (sz, by_, z)) (h2 : E.noInt t2 = true)
    {base : Option Addr} {n cap : Nat} {xv : Value} {w : World} (hx : Builtin.lenOf xv = pure 0) (hf : (Builtin.firstCells sz 0 xv).run E.P w = .ok #[] w) (hc : n ≤ cap) :
    (Builtin.append_ #[t, t2] ty #[.slice base n cap, xv]).run E.P w = .ok (.slice base n cap) w := by
  obtain ⟨i, q1, q2, q3, q4⟩ := inf_run hi
  rcases noInt_run h2 with ⟨_, hd⟩ | hd <;> cases base <;> simp [Builtin.append_, und_run ht, und_run hd, sizeOf, typeInfo, q1, q2, hx, hc, hf, storeCells]

theorem aApp_ok (hR : Rel B x O H) {t t2 ty : TypeId} {s y v : A} {p u : Value} {H' : Heap} (hs : VA x s p) (hy : VA x y u) (h : aApp E H t t2 s y = some (v, H')) :
    ∃ r w', (Builtin.append_ #[t, t2] ty #[p, u]).run E.P x.w = .ok r w' ∧ Outs B x v H' r w' := by
  have et : ∀ {t e}, E.elt t = some e → E.und t = some (.slice e) := fun h => by unfold Env.elt at h; split at h; (cases h; assumption); cases h
  unfold aApp at h
  split at h
  · rename_i e he
    split at h
    · rename_i sz by_ z hi
      split at h
      · rename_i hni
        split at h
        · rename_i xs hxs
          obtain ⟨hz1, _⟩ := E.hz _ _ _ _ hi
          split at h
          · -- nil
            split at h
            · rename_i hc
              obtain ⟨hall, h63, hb⟩ := hc
              cases h
              cases hs with | c _ _ hs => cases hs with | nils =>
              obtain ⟨news, n1, n2, n3, n4, n5⟩ := xsOf_ok hR hall (by omega) hy hxs
              by_cases hm : xs.length = 0
              · have hx0 : xs = [] := List.length_eq_zero_iff.1 hm
                subst hx0
                refine ⟨_, _, app_zero (et he) hi hni (w := x.w) n1 (by have := n2 x.w rfl; have e : news = [] := List.length_eq_zero_iff.1 (by simpa using n3); rw [e] at this; exact this) (Nat.le_refl 0), ?_⟩
                obtain ⟨z', O', e1, l1, f1, m1, L1, R1⟩ := hR.new (.rows (sz + 1) []) x.w none (fun _ => False) rfl rfl rfl (Nat.le_refl _) (fun _ _ => rfl) (fun k hk => hk.elim)
                  (fun y hw hle hF hμ => ⟨by omega, by simp, .inl ⟨hμ, rfl⟩⟩)
                refine ⟨z', O', e1, l1, R1, .c _ _ (.own _ _ _ _ _ ⟨rfl, by rw [L1]; omega, fun s' m' hN => ?_⟩)⟩
                have : z'.N H.length = some (sz + 1, 0) := by rw [R1.hN]; exact nOf_some (b := .rows (sz + 1) []) (by simp)
                rw [this] at hN
                cases hN
                exact ⟨Nat.le_refl _, fun _ => by rw [m1]; simp⟩
              · have hr := app_grow (ty := ty) (et he) hi hni (base := none) (n := 0) (cap := 0) (olds := []) (w := x.w) n1 n2 (fun w' _ => by simp [Builtin.firstCells]) (by omega) (by omega) (by simpa using hb)
                simp only [Nat.zero_add] at hr
                refine ⟨_, _, hr, ?_⟩
                have hge := grownCap_ge x.w xs.length 0 e
                have hsz : ((([] : List Value).toArray ++ news.toArray ++ Builtin.zeroCells z.cells (grownCap x.w xs.length 0 e - xs.length)) : Array Value).size = grownCap x.w xs.length 0 e * (sz + 1) := by
                  simp [size_zeroCells, n3, hz1, ← Nat.add_mul]
                  congr 1
                  omega
                refine rows_new hR _ e _ (.inr rfl) (by omega) hall (by rw [hsz]; exact Nat.mul_le_mul_right _ hge) rfl _ hge (by rw [hsz]; exact Nat.le_refl _) (fun j r c d hj hd => ?_)
                obtain ⟨uu, hu, hdr⟩ := n5 j r c d hj hd
                refine ⟨uu, ?_, hdr⟩
                have hlt := (List.getElem?_eq_some_iff.1 hu).1
                rw [Array.getElem?_append_left (by simp; exact hlt)]
                simpa using hu
            · cases h
          · -- an own one
            rename_i id off len n
            split at h
            · rename_i zz rs rty hb0
              split at h
              · rename_i hc
                obtain ⟨hoty, hall, rfl, rfl, htip, h63, hb⟩ := hc
                have hoty := okTy_ok hoty
                cases h
                have hb' := hG_some hb0
                cases hs with | c _ _ hs => cases hs with | own _ _ _ _ _ hs =>
                have hN : x.N id = some (sz + 1, rs.length) := by rw [hR.hN]; exact nOf_some hb'
                have hv := (hs.2.2 _ _ hN).2 rfl
                obtain ⟨news, n1, n2, n3, n4, n5⟩ := xsOf_ok hR hall (by omega) hy hxs
                obtain ⟨h0, hrs, hbk⟩ := hR.blk _ _ hb'
                have hlt : id < H.length := (List.getElem?_eq_some_iff.1 hb').1
                by_cases hm : xs.length = 0
                · have hx0 : xs = [] := List.length_eq_zero_iff.1 hm
                  subst hx0
                  have hH : hP H id (some (Blk.rows (sz + 1) (rs ++ []) rty)) = H := by
                    rw [hP_eq, List.append_nil]
                    apply List.ext_getElem?
                    intro i
                    rw [List.getElem?_set]
                    split
                    · rename_i e'; subst e'; rw [hb']
                    · rfl
                  rw [hH]
                  have hsl : ∃ base cap, p = .slice base len cap ∧ len ≤ cap := by
                    split at hv
                    · obtain ⟨rfl, _, rfl, _⟩ := hv; exact ⟨_, _, rfl, Nat.le_refl _⟩
                    · obtain ⟨a, cap, _, rfl, _, _, _, _, q, _⟩ := hv; exact ⟨_, _, rfl, q⟩
                  obtain ⟨base, cap, rfl, hcap⟩ := hsl
                  refine ⟨_, _, app_zero (et he) hi hni (w := x.w) n1 (by have := n2 x.w rfl; have e : news = [] := List.length_eq_zero_iff.1 (by simpa using n3); rw [e] at this; exact this) hcap, ?_⟩
                  exact ⟨x, O, rfl, .refl x, hR, .c _ _ (.own _ _ _ _ _ hs)⟩
                · have hown : ∀ (w' : World) (m' : Nat × Nat) (cap' : Nat), w'.os = x.w.os → w'.tape = x.w.tape → w'.output = x.w.output → x.w.heap.size ≤ w'.heap.size →
                      (∀ k, k < x.w.heap.size → ¬ O id k → w'.heap[k]? = x.w.heap[k]?) → (O id m'.1 ∨ m'.1 = x.w.heap.size) → m'.2 ≤ off → len + xs.length ≤ cap' →
                      (∃ vs t, w'.heap[m'.1]? = some (.cells vs (rty.getD t) (0, 0)) ∧ (off + cap' - m'.2) * (sz + 1) ≤ vs.size ∧ ∀ (i : Nat) (r : List D) (c : Nat) (d : D), m'.2 ≤ i → (rs ++ xs)[i]? = some r → r[c]? = some d → ∃ uu, vs[(i - m'.2) * (sz + 1) + c]? = some uu ∧ DR x.w x.F d uu) →
                      Outs B x (.c (.own id off (len + xs.length) (rs.length + xs.length))) (hP H id (some (.rows (sz + 1) (rs ++ xs) rty))) (.slice (some ⟨m'.1, (off - m'.2) * (sz + 1), none⟩) (len + xs.length) cap') w' := by
                    rintro w' ⟨b, lo⟩ cap' k1 k2 k3 k4 k5 k6 k7 k8 ⟨vs, tt, k9, k10, k11⟩
                    simp only at k6 k7 k9 k10 k11
                    have hbsz : b < w'.heap.size := (Array.getElem?_eq_some_iff.1 k9).1
                    obtain ⟨y', O', e1, l1, f1, m1, R1⟩ := hR.upd hb' (b' := .rows (sz + 1) (rs ++ xs) rty) w' (some (b, lo)) (fun k => k = b) k1 k2 k3 k4 k5
                      (fun k hk => by subst hk; exact ⟨k6.imp (fun h => h) (fun h => by omega), hbsz⟩)
                      ⟨rfl, by simp [Blk.n], fun he => by simp only [Blk.n, List.length_append] at he; omega⟩
                      (fun y hw hle hF hμ => ⟨h0, fun r hr => (List.mem_append.1 hr).elim (hrs r) (hall r), .inr ⟨b, lo, vs, tt, hμ, rfl, by rw [hw]; exact k9, by simp; omega, by
                        refine Nat.le_trans (Nat.mul_le_mul_right _ ?_) k10
                        simp
                        omega, fun i r c d hi hr hd => let ⟨uu, hu, hdr⟩ := k11 i r c d hi hr hd; ⟨uu, hu, hdr.mono hle.F⟩⟩⟩)
                    refine ⟨y', O', e1, l1, by rw [hP_eq]; exact R1, .c _ _ (.own _ _ _ _ _ ⟨rfl, Nat.lt_of_lt_of_le hs.2.1 l1.L, fun s' m' hN' => ?_⟩)⟩
                    have : y'.N id = some (sz + 1, rs.length + xs.length) := by rw [R1.hN, nOf_some (b := .rows (sz + 1) (rs ++ xs) rty) (by simp [hlt])]; simp [Blk.n]
                    rw [this] at hN'
                    cases hN'
                    refine ⟨Nat.le_refl _, fun _ => ?_⟩
                    rw [m1]
                    exact ⟨_, cap', vs.size, rfl, .inr rfl, k7, by omega, by omega, k8, by rw [e1]; unfold bsz; rw [k9], k10⟩
                  split at hv
                  · -- there is no block yet
                    rename_i hμ
                    obtain ⟨rfl, rfl, rfl, hn0⟩ := hv
                    have hrs0 : rs = [] := List.length_eq_zero_iff.1 hn0
                    subst hrs0
                    have hr := app_grow (ty := ty) (et he) hi hni (base := none) (n := 0) (cap := 0) (olds := []) (w := x.w) n1 n2 (fun w' _ => by simp [Builtin.firstCells]) (by omega) (by omega) (by simpa using hb)
                    simp only [Nat.zero_add] at hr
                    refine ⟨_, _, hr, ?_⟩
                    have hge := grownCap_ge x.w xs.length 0 e
                    have hsz : ((([] : List Value).toArray ++ news.toArray ++ Builtin.zeroCells z.cells (grownCap x.w xs.length 0 e - xs.length)) : Array Value).size = grownCap x.w xs.length 0 e * (sz + 1) := by
                      simp [size_zeroCells, n3, hz1, ← Nat.add_mul]
                      congr 1
                      omega
                    have := hown (x.w.drew.alloc (.cells (([] : List Value).toArray ++ news.toArray ++ Builtin.zeroCells z.cells (grownCap x.w xs.length 0 e - xs.length)) e)) (x.w.heap.size, 0) (grownCap x.w xs.length 0 e) rfl rfl rfl (by rw [alloc_size]; exact Nat.le_succ _)
                      (fun k hk _ => heap_old _ _ hk) (.inr rfl) (Nat.le_refl _) (by omega) ⟨_, e, by rw [hoty]; exact heap_new _ _, by rw [hsz]; simp, fun i r c d _ hi' hd => by
                        simp only [List.nil_append] at hi'
                        obtain ⟨uu, hu, hdr⟩ := n5 i r c d hi' hd
                        refine ⟨uu, ?_, hdr⟩
                        have hlt := (List.getElem?_eq_some_iff.1 hu).1
                        rw [Array.getElem?_append_left (by simp; exact hlt)]
                        simpa using hu⟩
                    simpa using this
                  · rename_i b lo hμ
                    obtain ⟨a, cap, ss, rfl, ha2, hlo, q1, q2, q3, q4, q5⟩ := hv
                    rcases hbk with ⟨hn, _⟩ | ⟨b', lo', vs, tt, hμ', hO, hh, hl1, hl2, hcs⟩
                    · rw [hn] at hμ; cases hμ
                    · rw [hμ] at hμ'
                      cases hμ'
                      have hss : ss = vs.size := by unfold bsz at q4; rw [hh] at q4; exact (Option.some.inj q4).symm
                      subst hss
                      by_cases hroom : len + xs.length ≤ cap
                      · have ha' := ha2.resolve_left (by omega)
                        subst ha'
                        have eN : (off - lo) * (sz + 1) + len * (sz + 1) = (rs.length - lo) * (sz + 1) := by rw [← Nat.add_mul]; congr 1; omega
                        have hfit : (off - lo) * (sz + 1) + len * (sz + 1) + news.length ≤ vs.size := by
                          rw [n3, eN, ← Nat.add_mul]
                          refine Nat.le_trans (Nat.mul_le_mul_right _ ?_) q5
                          omega
                        have hr := app_room (ty := ty) (et he) hi hni (w := x.w) n1 n2 n4 hh hroom hfit
                        refine ⟨_, _, hr, ?_⟩
                        refine hown _ (b, lo) cap rfl rfl rfl (by rw [setRow_size]; exact Nat.le_refl _) (fun k hk hno => setRow_other _ _ _ _ (fun e => hno (e ▸ hO))) (.inl hO) hlo hroom ⟨_, tt, setRow_heap _ _ _ _ _ _ hh, by simp; omega, fun i r c d hi' hr' hd => ?_⟩
                        rw [get_spl_arr (by simpa using hfit), eN]
                        simp only [Array.getElem?_toList]
                        by_cases hir : i < rs.length
                        · rw [List.getElem?_append_left hir] at hr'
                          have hc : c < sz + 1 := by rw [← hrs _ (List.mem_of_getElem? hr')]; exact (List.getElem?_eq_some_iff.1 hd).1
                          have : (i - lo) * (sz + 1) + (sz + 1) ≤ (rs.length - lo) * (sz + 1) := by
                            have : (i - lo + 1) * (sz + 1) ≤ (rs.length - lo) * (sz + 1) := Nat.mul_le_mul_right _ (by omega)
                            rw [Nat.add_mul, Nat.one_mul] at this
                            exact this
                          rw [if_pos (by omega)]
                          exact hcs i r c d hi' hr' hd
                        · rw [List.getElem?_append_right (by omega)] at hr'
                          obtain ⟨uu, hu, hdr⟩ := n5 _ r c d hr' hd
                          refine ⟨uu, ?_, hdr⟩
                          have hlt2 := (List.getElem?_eq_some_iff.1 hu).1
                          have e3 : (i - lo) * (sz + 1) + c = (rs.length - lo) * (sz + 1) + ((i - rs.length) * (sz + 1) + c) := by
                            rw [← Nat.add_assoc, ← Nat.add_mul]; congr 2; omega
                          rw [e3, if_neg (by omega), if_pos (by omega)]
                          rw [Nat.add_sub_cancel_left]
                          exact hu
                      · have holds : ∃ olds : List Value, olds.length = len * (sz + 1) ∧ (∀ w', w'.heap = x.w.heap → (Builtin.firstCells (sz + 1) len (.slice (some a) len cap)).run E.P w' = .ok olds.toArray w') ∧
                            ∀ (i : Nat) (r : List D) (c : Nat) (d : D), (rs.drop off)[i]? = some r → r[c]? = some d → ∃ u, olds[i * (sz + 1) + c]? = some u ∧ DR x.w x.F d u := by
                          have hdl : (rs.drop off).length = len := by simp; omega
                          by_cases hl0 : len = 0
                          · subst hl0
                            refine ⟨[], by simp, fun w' _ => firstCells_zero _ _ _ _ _, fun i r c d hi' => ?_⟩
                            have := (List.getElem?_eq_some_iff.1 hi').1
                            omega
                          · have ha' := ha2.resolve_left (by omega)
                            subst ha'
                            obtain ⟨olds, o1, o2, o3, o4⟩ := cells_list (w := x.w) (F := x.F) (b := b) (o := (off - lo) * (sz + 1)) (xs := rs.drop off) (s := sz + 1) (fun r hr => hrs r (List.mem_of_mem_drop hr)) (fun i r c d hi' hd => by
                              rw [List.getElem?_drop] at hi'
                              obtain ⟨uu, hu, hdr⟩ := hcs (off + i) r c d (by omega) hi' hd
                              refine ⟨uu, ?_, hdr⟩
                              simp only [World.cell?, hh]
                              have e5 : (off + i - lo) * (sz + 1) = (off - lo) * (sz + 1) + i * (sz + 1) := by rw [← Nat.add_mul]; congr 1; omega
                              rw [e5, Nat.add_assoc] at hu
                              simpa using hu)
                            rw [hdl] at o1
                            refine ⟨olds, o1, fun w' hw => run_firstCells_some w' (sz + 1) len _ _ _ olds o1 (fun j v hj => ?_), o4⟩
                            have := o2 j v hj
                            rw [add_off]
                            unfold World.cell? at this ⊢
                            rw [hw]
                            exact this
                        obtain ⟨olds, o1, o2, o3⟩ := holds
                        have hr := app_grow (ty := ty) (et he) hi hni (base := some a) (n := len) (cap := cap) (olds := olds) (w := x.w) n1 n2 o2 (by omega) h63 hb
                        refine ⟨_, _, hr, ?_⟩
                        have hge := grownCap_ge x.w (len + xs.length) cap e
                        have hsz : ((olds.toArray ++ news.toArray ++ Builtin.zeroCells z.cells (grownCap x.w (len + xs.length) cap e - (len + xs.length))) : Array Value).size = grownCap x.w (len + xs.length) cap e * (sz + 1) := by
                          simp only [Array.size_append, List.size_toArray, size_zeroCells, n3, o1, hz1, ← Nat.add_mul, Nat.succ_eq_add_one]
                          congr 1
                          omega
                        have := hown (x.w.drew.alloc (.cells (olds.toArray ++ news.toArray ++ Builtin.zeroCells z.cells (grownCap x.w (len + xs.length) cap e - (len + xs.length))) e)) (x.w.heap.size, off) (grownCap x.w (len + xs.length) cap e) rfl rfl rfl (by rw [alloc_size]; exact Nat.le_succ _)
                          (fun k hk _ => heap_old _ _ hk) (.inr rfl) (Nat.le_refl _) hge ⟨_, e, by rw [hoty]; exact heap_new _ _, by rw [hsz]; simp, fun i r c d hi' hr' hd => by
                            have hc : c < sz + 1 := by
                              have h1 := (List.getElem?_eq_some_iff.1 hd).1
                              rcases List.mem_append.1 (List.mem_of_getElem? hr') with h | h
                              · rw [← hrs r h]; exact h1
                              · rw [← hall r h]; exact h1
                            by_cases hir : i < rs.length
                            · rw [List.getElem?_append_left hir] at hr'
                              have e6 : (rs.drop off)[i - off]? = some r := by rw [List.getElem?_drop, show off + (i - off) = i by omega]; exact hr'
                              obtain ⟨uu, hu, hdr⟩ := o3 _ r c d e6 hd
                              refine ⟨uu, ?_, hdr⟩
                              have hlt2 := (List.getElem?_eq_some_iff.1 hu).1
                              rw [Array.getElem?_append_left (by simp; omega), Array.getElem?_append_left (by simpa using hlt2)]
                              simpa using hu
                            · rw [List.getElem?_append_right (by omega)] at hr'
                              obtain ⟨uu, hu, hdr⟩ := n5 _ r c d hr' hd
                              refine ⟨uu, ?_, hdr⟩
                              have hlt2 := (List.getElem?_eq_some_iff.1 hu).1
                              have e3 : (i - off) * (sz + 1) + c = len * (sz + 1) + ((i - rs.length) * (sz + 1) + c) := by
                                rw [← Nat.add_assoc, ← Nat.add_mul]; congr 2; omega
                              rw [e3, Array.getElem?_append_left (by simp; omega), Array.getElem?_append_right (by simp; omega)]
                              simp only [List.size_toArray, o1, Nat.add_sub_cancel_left]
                              simpa using hu⟩
                        simpa using this
              · cases h
            · cases h
          · cases h
        · cases h
      · cases h
    · cases h
  · cases h

end
end Go.Eng
namespace Go.Eng
open Go.RowKit
set_option linter.unusedVariables false
set_option linter.unusedSimpArgs false

def mfind (q : IntKind) (k : Int) : List (Value × Value) → Option (Option (Nat × Value))
  | [] => some none
  | (.int q' a, v) :: l => if q = q' then (if k = a then some (some (0, v)) else match mfind q k l with | some (some (i, u)) => some (some (i + 1, u)) | r => r) else none
  | _ :: _ => none

def mapOf (H : Heap) : A → Option (Nat × List (Value × Value))
  | .c (.ptr id j o n) => if j = 0 ∧ o = 0 ∧ n = 1 then match hG H id with | some (.mp es) => some (id, es) | _ => none else none
  | _ => none

def lookA (ok : Bool) (v : Value) (b : Bool) : Option A := if one v = true then some (if ok = true then .tup [sc v, sc (.bool b)] else sc v) else none

def Env.ikey (E : Env) (t : TypeId) : Option TypeId := match E.und t with | some (.map k e) => (match E.und k with | some (.int _) => some e | _ => none) | _ => none
def Env.zer (E : Env) (t : TypeId) : Option Value := match E.inf t with | some (_, _, z) => some z | _ => none

def lookB (E : Env) (e : TypeId) (ok : Bool) : Option (Option (Nat × Value)) → Option A
  | some (some (_, v)) => lookA ok v true
  | some none => match E.zer e with | some z => lookA ok z false | none => none
  | none => none

def aLookup (E : Env) (H : Heap) (t : TypeId) (m k : A) (ok : Bool) : Option A :=
  match E.ikey t, sv k, mapOf H m with
  | some e, some (.int q k), some (_, es) => lookB E e ok (mfind q k es)
  | _, _, _ => none

def mput (q : IntKind) (k : Int) (v : Value) (es : List (Value × Value)) : Option (Option (Nat × Value)) → Option (List (Value × Value))
  | some none => some (es ++ [(.int q k, v)])
  | some (some (i, _)) => some (es.set i (.int q k, v))
  | none => none

def putB (H : Heap) (id : Nat) : Option (List (Value × Value)) → Option Heap
  | some es => some (hP H id (some (.mp es)))
  | none => none

def aMapUpdate (E : Env) (H : Heap) (t : TypeId) (m k v : A) : Option Heap :=
  match E.ikey t, sv k, sv v, mapOf H m with
  | some _, some (.int q k), some v, some (id, es) => putB H id (mput q k v es (mfind q k es))
  | _, _, _, _ => none

def aMakeMap (H : Heap) : Option A → Option (A × Heap)
  | none => some (.c (.ptr H.length 0 0 1), H ++ [some (.mp [])])
  | some _ => none

def setB (w : World) (b : Nat) (o : Obj) : World := { w with heap := w.heap.setIfInBounds b o }
theorem setB_same {w : World} {b : Nat} {o : Obj} (h : b < w.heap.size) : (setB w b o).heap[b]? = some o := by simp [setB, h]
theorem setB_other {w : World} {b k : Nat} {o : Obj} (h : k ≠ b) : (setB w b o).heap[k]? = w.heap[k]? := by
  unfold setB
  exact Array.getElem?_setIfInBounds_ne (Ne.symm h)
theorem setB_size (w : World) (b : Nat) (o : Obj) : (setB w b o).heap.size = w.heap.size := by simp [setB]
theorem get_map {P : Program} {w : World} {r : Nat} {es : Array MapEntry} {clock : Nat} (hb : w.heap[r]? = some (.map es clock)) : (getObj r).run P w = .ok (.map es clock) w := by
  simp [getObj, Sem.run, hb]
theorem set_map {P : Program} {w : World} {r : Nat} {es : Array MapEntry} {clock : Nat} (o : Obj) (hb : w.heap[r]? = some (.map es clock)) : (setObj r o).run P w = .ok () (setB w r o) := by
  simp [setObj, Sem.run, hb, setB]

def ekv (e : MapEntry) : Value × Value := (e.key, e.val)

theorem mfind_ok {q q0 : IntKind} {k : Int} : ∀ {es : List MapEntry} {r : Option (Nat × Value)} (n : Nat), mfind q k (es.map ekv) = some r →
    Instr.findNow (.int q0) (.int q k) es n = some (r.map fun p => (p.1 + n, p.2)) ∧ ∀ i v, r = some (i, v) → ∃ e, es[i]? = some e ∧ e.key = .int q k
  | [], r, n, h => by
    simp only [List.map_nil, mfind, Option.some.injEq] at h
    subst h
    exact ⟨rfl, fun i v h => by cases h⟩
  | e :: es, r, n, h => by
    obtain ⟨key, val, born⟩ := e
    simp only [List.map_cons, ekv] at h
    unfold mfind at h
    split at h
    · rename_i heq; cases heq
    · rename_i q' a v l heq
      simp only [List.cons.injEq, Prod.mk.injEq] at heq
      obtain ⟨⟨rfl, rfl⟩, rfl⟩ := heq
      split at h
      · rename_i hq
        subst hq
        split at h
        · rename_i ha
          subst ha
          cases h
          refine ⟨by simp [Instr.findNow, Instr.sameNow], fun i v h => ?_⟩
          cases h
          exact ⟨_, rfl, rfl⟩
        · rename_i ha
          have hs : Instr.findNow (.int q0) (.int q k) (⟨.int q a, val, born⟩ :: es) n = Instr.findNow (.int q0) (.int q k) es (n + 1) := by simp [Instr.findNow, Instr.sameNow, beq_eq_false_iff_ne.2 ha]
          rw [hs]
          split at h
          · rename_i i u hi
            cases h
            obtain ⟨h1, h2⟩ := mfind_ok (q0 := q0) (n + 1) hi
            refine ⟨by rw [h1]; simp [Nat.add_comm, Nat.add_left_comm], fun j w hj => ?_⟩
            cases hj
            obtain ⟨e, he, hk⟩ := h2 i u rfl
            exact ⟨e, by simpa using he, hk⟩
          · rename_i hne
            obtain ⟨h1, h2⟩ := mfind_ok (q0 := q0) (n + 1) h
            cases r with
            | none => exact ⟨h1, fun i v h => by cases h⟩
            | some p => exact absurd h (by intro h; exact hne p.1 p.2 h)
      · cases h
    · cases h

section
variable {E : Env} {B : Base} {x : Ctx} {O : Nat → Nat → Prop} {H : Heap}

theorem mapOf_ok (hR : Rel B x O H) {m : A} {v : Value} (hm : VA x m v) {id : Nat} {es : List (Value × Value)} (h : mapOf H m = some (id, es)) :
    H[id]? = some (some (.mp es)) ∧ ∃ b ents clock, x.μ id = some (b, 0) ∧ O id b ∧ v = .map (some b) ∧ x.w.heap[b]? = some (.map ents clock) ∧ ents.toList.map ekv = es := by
  unfold mapOf at h
  split at h
  · rename_i id' j o n
    split at h
    · rename_i hc
      obtain ⟨rfl, rfl, rfl⟩ := hc
      split at h
      · rename_i es' hb
        cases h
        have hb' := hG_some hb
        refine ⟨hb', ?_⟩
        cases hm with | c _ _ hm => cases hm with | ptr _ _ _ _ _ hm =>
        obtain ⟨b, ents, ck, h1, h2, h3, h4⟩ := hR.blk _ _ hb'
        obtain ⟨b', lo, q1, q2, q3⟩ := (hm.2.2 0 1 (by rw [hR.hN]; exact nOf_some hb')).2 rfl
        rw [h1] at q1
        cases q1
        exact ⟨b, ents, ck, h1, h2, q3, h3, h4⟩
      · cases h
    · cases h
  · cases h

theorem Env.ikey_und {t e : TypeId} (h : E.ikey t = some e) : ∃ k q, E.und t = some (.map k e) ∧ E.und k = some (.int q) := by
  unfold Env.ikey at h
  split at h
  · rename_i k e' hu
    split at h
    · rename_i q hk
      cases h
      exact ⟨k, q, hu, hk⟩
    · cases h
  · cases h

theorem checkKey_int {k : TypeId} {q q' : IntKind} {a : Int} (hk : E.und k = some (.int q)) (c : Bool) (w : World) : (Instr.checkKey c 10000 k (.int q' a)).run E.P w = .ok () w := by
  show (Instr.checkKey c (9999 + 1) k _).run E.P w = _
  unfold Instr.checkKey
  simp only [Sem.run_bind, und_run hk, Result.andThen_ok, Sem.run_pure]

theorem findKey_int {k : TypeId} {q q' : IntKind} {a : Int} (hk : E.und k = some (.int q)) {es : List MapEntry} {r : Option (Nat × Value)} (h : mfind q' a (es.map ekv) = some r) (w : World) :
    (Instr.findKey k (.int q' a) es).run E.P w = .ok r w := by
  unfold Instr.findKey
  simp only [Sem.run_bind, und_run hk, Result.andThen_ok]
  rw [(mfind_ok (q0 := q) 0 h).1]
  cases r <;> simp

theorem lookA_ok {ok b : Bool} {v : Value} {a : A} (h : lookA ok v b = some a) (x : Ctx) : VA x a (if ok then .tuple #[v, .bool b] else v) := by
  unfold lookA at h
  split at h
  · rename_i h1
    cases h
    cases ok
    · exact VA.sc x h1
    · refine .tup [sc v, sc (.bool b)] #[v, .bool b] (fun i => if i = 0 then v else .bool b) rfl (fun i a hi => ?_) (fun i a hi => ?_)
      all_goals
        rcases i with _ | _ | i
        · first | rfl | (cases hi; exact VA.sc x h1)
        · first | rfl | (cases hi; exact VA.sc x rfl)
        · simp at hi
  · cases h

theorem aLookup_ok (hR : Rel B x O H) {t : TypeId} {m k v : A} {um uk : Value} {ok : Bool} (hm : VA x m um) (hk : VA x k uk) (h : aLookup E H t m k ok = some v) :
    ∃ r, (Instr.lookup t um uk ok).run E.P x.w = .ok r x.w ∧ VA x v r := by
  unfold aLookup at h
  split at h
  · rename_i e q a id es he hs hmo
    obtain ⟨rfl, _⟩ := sv_eq hs hk
    obtain ⟨hb, b, ents, ck, h1, h2, rfl, h3, rfl⟩ := mapOf_ok hR hm hmo
    obtain ⟨kt, q0, hu, hkt⟩ := Env.ikey_und he
    have hg := get_map (P := E.P) h3
    unfold lookB at h
    split at h
    · rename_i i u hf
      refine ⟨_, ?_, lookA_ok h x⟩
      simp only [Instr.lookup, Sem.run_bind, und_run hu, Result.andThen_ok, hg, Sem.run_pure, checkKey_int hkt, findKey_int hkt hf]
    · rename_i hf
      split at h
      · rename_i z hz
        refine ⟨_, ?_, lookA_ok h x⟩
        have hz' : (zeroValue e).run E.P x.w = .ok z x.w := by
          unfold Env.zer at hz
          split at hz
          · rename_i s b' z' hi
            cases hz
            exact zero_run hi _
          · cases hz
        simp only [Instr.lookup, Sem.run_bind, und_run hu, Result.andThen_ok, hg, Sem.run_pure, checkKey_int hkt, findKey_int hkt hf, hz']
      · cases h
    · cases h
  · cases h

theorem aMakeMap_ok (hR : Rel B x O H) {r : Option A} {v : A} {H' : Heap} (t : TypeId) {r' : Option Value} (hr : r = none → r' = none) (h : aMakeMap H r = some (v, H')) :
    ∃ u w', (Instr.makeMap t r').run E.P x.w = .ok u w' ∧ Outs B x v H' u w' := by
  unfold aMakeMap at h
  split at h
  · cases h
    obtain rfl := hr rfl
    obtain ⟨y, O', e1, l1, f1, m1, L1, R1⟩ := hR.new (.mp []) (x.w.alloc (.map #[] 0)) (some (x.w.heap.size, 0)) (fun k => k = x.w.heap.size) rfl rfl rfl (by rw [alloc_size]; omega)
      (fun k hk => heap_old _ _ hk) (fun k hk => by subst hk; exact ⟨Nat.le_refl _, by rw [alloc_size]; omega⟩)
      (fun y hw hle hF hμ => ⟨_, #[], 0, hμ, rfl, by rw [hw]; exact heap_new _ _, rfl⟩)
    refine ⟨.map (some x.w.heap.size), x.w.alloc (.map #[] 0), by simp [Instr.makeMap], y, O', e1, l1, R1, .c _ _ (.ptr _ _ _ _ _ ⟨rfl, by rw [L1]; omega, fun s m hN => ?_⟩)⟩
    have : y.N H.length = some (0, 1) := by rw [R1.hN]; exact nOf_some (b := .mp []) (by simp)
    rw [this] at hN
    cases hN
    exact ⟨Nat.le_refl _, fun _ => ⟨_, _, m1, Nat.le_refl _, rfl⟩⟩
  · cases h

theorem modify_ekv (ents : Array MapEntry) (i : Nat) (k v : Value) : (ents.modify i fun e => { e with key := k, val := v }).toList.map ekv = (ents.toList.map ekv).set i (k, v) := by
  apply List.ext_getElem?
  intro j
  simp only [List.getElem?_map, List.getElem?_set, Array.getElem?_toList, Array.getElem?_modify]
  by_cases e : i = j
  · subst e
    simp only [if_pos rfl]
    by_cases hl : i < ents.size
    · simp [hl, ekv]
    · simp [hl]
  · simp [e]

theorem aMapUpdate_ok (hR : Rel B x O H) {t : TypeId} {m k v : A} {um uk uv : Value} {H' : Heap} (hm : VA x m um) (hk : VA x k uk) (hv : VA x v uv) (h : aMapUpdate E H t m k v = some H') :
    ∃ w', (Instr.mapUpdate t um uk uv).run E.P x.w = .ok () w' ∧ ∃ y O', y.w = w' ∧ x.Le y ∧ Rel B y O' H' := by
  unfold aMapUpdate at h
  split at h
  · rename_i e q a v' id es he hs hsv hmo
    obtain ⟨rfl, _⟩ := sv_eq hs hk
    obtain ⟨rfl, _⟩ := sv_eq hsv hv
    obtain ⟨hb, b, ents, ck, h1, h2, rfl, h3, hes⟩ := mapOf_ok hR hm hmo
    obtain ⟨kt, q0, hu, hkt⟩ := Env.ikey_und he
    have hg := get_map (P := E.P) h3
    have hblt : b < x.w.heap.size := (Array.getElem?_eq_some_iff.1 h3).1
    have fin : ∀ (es' : Array MapEntry) (ck' : Nat), H' = hP H id (some (.mp (es'.toList.map ekv))) →
        ∃ y O', y.w = setB x.w b (.map es' ck') ∧ x.Le y ∧ Rel B y O' H' := fun es' ck' e => by
      obtain ⟨y, O', e1, l1, f1, m1, R1⟩ := hR.upd hb (b' := .mp (es'.toList.map ekv)) (setB x.w b (.map es' ck')) (some (b, 0)) (O id) rfl rfl rfl (by rw [setB_size]; exact Nat.le_refl _)
        (fun k hk hno => setB_other (fun e => hno (e ▸ h2))) (fun k hk => ⟨.inl hk, by rw [setB_size]; exact (hR.own id k hk).1⟩)
        ⟨rfl, Nat.le_refl _, fun _ => ⟨h1.symm, fun g lo hg => by
          rw [h1] at hg
          cases hg
          unfold bsz
          rw [setB_same hblt, h3]⟩⟩
        (fun y hw hle hF hμ' => ⟨b, _, _, hμ', h2, by rw [hw]; exact setB_same hblt, rfl⟩)
      exact ⟨y, O', e1, l1, by rw [e, hP_eq]; exact R1⟩
    unfold putB at h
    split at h
    · rename_i es' hput
      cases h
      unfold mput at hput
      split at hput
      · rename_i hf
        cases hput
        rw [← hes] at hf
        refine ⟨_, ?_, fin (ents.push { key := .int q a, val := uv, born := ck }) (ck + 1) (by simp [← hes, ekv])⟩
        simp only [Instr.mapUpdate, Sem.run_bind, und_run hu, Result.andThen_ok, hg, checkKey_int hkt, findKey_int hkt hf]
        exact set_map _ h3
      · rename_i i u hf
        cases hput
        rw [← hes] at hf
        obtain ⟨e0, he0, hk0⟩ := (mfind_ok (q0 := q0) 0 hf).2 i u rfl
        refine ⟨_, ?_, fin (ents.modify i fun e => { e with key := .int q a, val := uv }) ck (by rw [modify_ekv, hes])⟩
        simp only [Instr.mapUpdate, Sem.run_bind, und_run hu, Result.andThen_ok, hg, checkKey_int hkt, findKey_int hkt hf]
        have he1 : ents[i]? = some e0 := by simpa using he0
        have hsb : Instr.sameBits 10000 (.int q a) (.int q a) = true := by simp [Instr.sameBits]
        simp only [he1, hk0, Option.map_some, Option.getD_some, Instr.keyThatStays, hsb, if_true, pure_bind]
        exact set_map _ h3
      · cases hput
    · cases h
  · cases h
end
end Go.Eng
namespace Go.Eng
open Go.RowKit
set_option linter.unusedVariables false
set_option linter.unusedSimpArgs false

def evs (E : Env) (T : List A) (ps : List (Nat × Operand)) : List (Nat × A) := ps.map fun p => (p.1, ev E T p.2)

def keep (H : Heap) : Option A → Option (A × Heap)
  | some v => some (v, H)
  | none => none

def put' : Option Heap → Option (A × Heap)
  | some H => some (.und, H)
  | none => none

def Env.isStruct (E : Env) (t : TypeId) : Bool := match E.und t with | some (.struct _) => true | _ => false

def nxC : List C → Nat → List C
  | .nils :: l, 0 => .d (.sc (.slice none 0 0)) :: l
  | c :: l, n + 1 => c :: nxC l n
  | l, _ => l
def nxA : Option Nat → Option A → Option A
  | some j, some (.agg cs) => some (.agg (nxC cs j))
  | _, x => x
theorem nxC_ok {x : Ctx} : ∀ {cs : List C} {j : Nat} {i : Nat} {c : C}, (nxC cs j)[i]? = some c → ∃ c0, cs[i]? = some c0 ∧ ∀ u, VR x c0 u → VR x c u
  | [], j, i, c, h => by simp [nxC] at h
  | c0 :: l, 0, i, c, h => by
    cases c0 with
    | nils =>
      cases i with
      | zero => cases h; exact ⟨_, rfl, fun u hu => by cases hu; exact .d _ _ (.sc _ rfl)⟩
      | succ i => exact ⟨c, by simpa [nxC] using h, fun _ h => h⟩
    | _ => exact ⟨c, by simpa [nxC] using h, fun _ h => h⟩
  | c0 :: l, j + 1, i, c, h => by
    cases i with
    | zero => cases c0 <;> (cases h; exact ⟨_, rfl, fun _ h => h⟩)
    | succ i => exact nxC_ok (cs := l) (j := j) (by cases c0 <;> simpa [nxC] using h)
theorem nxC_len : ∀ (cs : List C) (j : Nat), (nxC cs j).length = cs.length
  | [], j => by simp [nxC]
  | c :: l, 0 => by cases c <;> simp [nxC]
  | c :: l, j + 1 => by cases c <;> simp [nxC, nxC_len l j]
theorem nxA_ok {j : Option Nat} {r : Option A} {v : A} (h : nxA j r = some v) : ∃ v0, r = some v0 ∧ ∀ x u, VA x v0 u → VA x v u := by
  unfold nxA at h
  split at h
  · cases h
    rename_i cs
    refine ⟨_, rfl, fun x u hu => ?_⟩
    cases hu with | agg _ vs hcs =>
    refine .agg _ _ ⟨by rw [nxC_len]; exact hcs.1, fun i c hc => ?_⟩
    obtain ⟨c0, h0, h1⟩ := nxC_ok (x := x) hc
    obtain ⟨u, hu, hv⟩ := hcs.2 i c0 h0
    exact ⟨u, hu, h1 u hv⟩
  · exact ⟨v, h, fun _ _ h => h⟩
def aop (E : Env) (T : List A) (H : Heap) (o : Op) : Option (A × Heap) :=
  match o with
  | .alloc t => aAlloc E H t
  | .box t y => aBox H (ev E T y) (E.ty t)
  | .build t ps => if E.isStruct t = true then keep H (nxA (E.nx t) (aBuild E t (evs E T ps.toList))) else none
  | .buildSlice t n ps => aBuildSlice E H t n (evs E T ps.toList)
  | .makeSlice t l c => aMake E H t (ev E T l) (ev E T c)
  | .store t a y => put' (aStore E H t (ev E T a) (ev E T y))
  | .call { callee := .builtin .append, args, argTypes } => match args.toList, argTypes.toList with
    | [s, y], [t, t2] => aApp E H t t2 (ev E T s) (ev E T y)
    | _, _ => none
  | .lookup t m k ok => keep H (aLookup E H t (ev E T m) (ev E T k) ok)
  | .mapUpdate t m k y => put' (aMapUpdate E H t (ev E T m) (ev E T k) (ev E T y))
  | .makeMap t r => aMakeMap H (r.map (ev E T))
  | o => keep H (aop1 E T H o)

theorem Outs.yld {E : Env} {T : List A} {H : Heap} {o : Oper} {v : A} {H' : Heap}
    (h : ∀ B x O (a : Act), Rel B x O H → TR x T a.tmps → (∀ y, VA x (ev E T y) (a.eval y)) → ∃ n v' w', (execOp a.eval o).run E.P x.w = .ok n w' ∧ (n = .value v' ∨ n = .skip ∧ v' = undef) ∧ Outs B x v H' v' w') : Yld E T H o v H' := by
  intro B x O a hB hR hT
  exact h B x O a hR hT (fun y => hT.eval (fun g => hR.glob hB g) y)

theorem evs_ok {E : Env} {x : Ctx} {T : List A} {a : Act} (he : ∀ y, VA x (ev E T y) (a.eval y)) (ps : List (Nat × Operand)) :
    (ps.map fun (i, y) => (i, a.eval y)).length = (evs E T ps).length ∧ ∀ (i : Nat) p, (evs E T ps)[i]? = some p → ∃ u, (ps.map fun (i, y) => (i, a.eval y))[i]? = some (p.1, u) ∧ VA x p.2 u := by
  refine ⟨by simp [evs], fun i p hp => ?_⟩
  simp only [evs, List.getElem?_map, Option.map_eq_some_iff] at hp
  obtain ⟨q, hq, rfl⟩ := hp
  exact ⟨a.eval q.2, by simp [hq], he q.2⟩

theorem aop_ok {E : Env} {T : List A} {H : Heap} {o : Oper} {v : A} {H' : Heap} (h : aop E T H o.op = some (v, H')) : Yld E T H o v H' := by
  have low : keep H (aop1 E T H o.op) = some (v, H') → Yld E T H o v H' := fun h => by
    unfold keep at h
    split at h
    · rename_i v' hv
      cases h
      exact aop1_ok hv
    · cases h
  unfold aop at h
  obtain ⟨dst, op, type, pos, after, guard⟩ := o
  simp only at h low
  split at h
  · rename_i t
    refine Outs.yld fun B x O a hR hT he => ?_
    obtain ⟨u, w', h1, h2⟩ := aAlloc_ok hR h
    exact ⟨_, u, w', by simp [execOp, h1], .inl rfl, h2⟩
  · rename_i t y
    refine Outs.yld fun B x O a hR hT he => ?_
    exact ⟨_, _, _, by simp [execOp, Instr.box, newVar, newRow], .inl rfl, aBox_ok hR (he y) h t (E.hty t)⟩
  · rename_i t ps
    split at h
    · rename_i hs
      unfold keep at h
      split at h
      · rename_i v' hv
        cases h
        refine Yld.same fun B x O a hR hT he => ?_
        obtain ⟨e1, e2⟩ := evs_ok he ps.toList
        obtain ⟨v0, hv0, hvx⟩ := nxA_ok hv
        obtain ⟨u, h1, h2⟩ := aBuild_ok e1 e2 hv0 (by unfold Env.isStruct at hs; split at hs; exact ⟨_, by assumption⟩; cases hs) x.w
        refine ⟨u, ?_, hvx _ _ h2⟩
        have : (ps.map fun (i, y) => (i, a.eval y)) = (ps.toList.map fun (i, y) => (i, a.eval y)).toArray := by apply Array.ext'; simp
        simp only [execOp, this, Sem.run_bind, h1, Result.andThen_ok, Sem.run_pure]
      · cases h
    · cases h
  · rename_i t n ps
    refine Outs.yld fun B x O a hR hT he => ?_
    obtain ⟨e1, e2⟩ := evs_ok he ps.toList
    obtain ⟨u, w', h1, h2⟩ := aBuildSlice_ok hR e1 e2 h
    have : (ps.map fun (i, y) => (i, a.eval y)) = (ps.toList.map fun (i, y) => (i, a.eval y)).toArray := by apply Array.ext'; simp
    exact ⟨_, u, w', by simp only [execOp, this, Sem.run_bind, h1, Result.andThen_ok, Sem.run_pure], .inl rfl, h2⟩
  · rename_i t l c
    refine Outs.yld fun B x O a hR hT he => ?_
    obtain ⟨u, w', h1, h2⟩ := aMake_ok hR (he l) (he c) h
    exact ⟨_, u, w', by simp [execOp, h1], .inl rfl, h2⟩
  · rename_i t p y
    refine Outs.yld fun B x O a hR hT he => ?_
    unfold put' at h
    split at h
    · rename_i H1 hs
      cases h
      obtain ⟨w', h1, y', O', e1, l1, R1⟩ := aStore_ok hR (he p) (he y) hs
      exact ⟨_, undef, w', by simp [execOp, h1], .inr ⟨rfl, rfl⟩, y', O', e1, l1, R1, .und⟩
    · cases h
  · rename_i args ats
    split at h
    · rename_i s y t t2 h1 h2
      refine Outs.yld fun B x O a hR hT he => ?_
      have ea : args = #[s, y] := by apply Array.ext'; simpa using h1
      have et : ats = #[t, t2] := by apply Array.ext'; simpa using h2
      subst ea; subst et
      obtain ⟨u, w', h1, h2⟩ := aApp_ok hR (ty := type) (he s) (he y) h
      exact ⟨_, u, w', by simp [execOp, resolve, invoke, builtin, h1], .inl rfl, h2⟩
    · cases h
  · rename_i t m k ok
    unfold keep at h
    split at h
    · rename_i v' hv
      cases h
      refine Yld.same fun B x O a hR hT he => ?_
      obtain ⟨u, h1, h2⟩ := aLookup_ok hR (he m) (he k) hv
      exact ⟨u, by simp [execOp, h1], h2⟩
    · cases h
  · rename_i t m k y
    refine Outs.yld fun B x O a hR hT he => ?_
    unfold put' at h
    split at h
    · rename_i H1 hs
      cases h
      obtain ⟨w', h1, y', O', e1, l1, R1⟩ := aMapUpdate_ok hR (he m) (he k) (he y) hs
      exact ⟨_, undef, w', by simp [execOp, h1], .inr ⟨rfl, rfl⟩, y', O', e1, l1, R1, .und⟩
    · cases h
  · rename_i t r
    refine Outs.yld fun B x O a hR hT he => ?_
    obtain ⟨u, w', h1, h2⟩ := aMakeMap_ok (E := E) hR t (r' := r.map a.eval) (by cases r <;> simp) h
    exact ⟨_, u, w', by simp [execOp, h1], .inl rfl, h2⟩
  · exact low h

end Go.Eng
