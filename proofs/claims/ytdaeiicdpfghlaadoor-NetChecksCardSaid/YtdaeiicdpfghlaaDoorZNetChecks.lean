/- Whatever the process: net.Check names the rule that is broken, and the place, as the reference does: the pure statement. -/
import Derived.Test.YtdaeiicdpfghlaaDoorV0
import Derived.Test.YtdaeiicdpfghlaaDoorSx0
import Derived.Test.YtdaeiicdpfghlaaDoorSx1
import Derived.Test.YtdaeiicdpfghlaaDoorSx2
import Derived.Test.YtdaeiicdpfghlaaDoorSx3
import Derived.Test.YtdaeiicdpfghlaaDoorSx4
import Derived.Test.YtdaeiicdpfghlaaDoorSx5
import Derived.Test.YtdaeiicdpfghlaaDoorSx6
import Derived.Test.YtdaeiicdpfghlaaDoorSx7
import Derived.Test.YtdaeiicdpfghlaaDoorSx8
import Derived.Test.YtdaeiicdpfghlaaDoorSx9
import Derived.Test.YtdaeiicdpfghlaaDoorSx10
import Derived.Test.YtdaeiicdpfghlaaDoorSx11
import Derived.Test.YtdaeiicdpfghlaaDoorSx12
import Derived.Test.YtdaeiicdpfghlaaDoorSx14
import Derived.Test.YtdaeiicdpfghlaaDoorSx15
import Derived.Test.YtdaeiicdpfghlaaDoorSx16
import Derived.Test.YtdaeiicdpfghlaaDoorSx17
import Derived.Test.YtdaeiicdpfghlaaDoorSx18
import Derived.Test.YtdaeiicdpfghlaaDoorSx19
import Derived.Test.YtdaeiicdpfghlaaDoorSx20
import Derived.Test.YtdaeiicdpfghlaaDoorSx21
import Derived.Test.YtdaeiicdpfghlaaDoorSRk
set_option linter.unusedVariables false
set_option linter.unusedSimpArgs false
section
set_option linter.unusedVariables false
set_option linter.unusedSimpArgs false
namespace Go.Proofs.YtdaeiicdpfghlaaDoor.NP
open Go.RowKit Go.Proofs.YtdaeiicdpfghlaaDoor.R Go.Proofs.YtdaeiicdpfghlaaDoorW.PrintWords Go.Proofs.YtdaeiicdpfghlaaDoorW.PrintLast
theorem wrapS {x : Int} (h0 : -9223372036854775808 ≤ x) (h1 : x ≤ 9223372036854775807) : wrap64 x = x := by unfold wrap64; omega
theorem wrapI {i : Nat} (h : i ≤ 1000000000) : wrap64 ((i : Int) + 1) = ((i + 1 : Nat) : Int) := by rw [wrapS (by omega) (by omega)]; omega
theorem rd35 {l : List S35} {i : Nat} (h : i < l.length) : rd_T35 l (i : Int) = l[i] := by
 unfold rd_T35
 rw [show (i : Int).toNat = i from rfl, List.getD_eq_getElem?_getD, List.getElem?_eq_getElem h]
 rfl
theorem rd37 {l : List S37} {i : Nat} (h : i < l.length) : rd_T37 l (i : Int) = l[i] := by
 unfold rd_T37
 rw [show (i : Int).toNat = i from rfl, List.getD_eq_getElem?_getD, List.getElem?_eq_getElem h]
 rfl
theorem rd53 {l : List S53} {i : Nat} (h : i < l.length) : rd_T53 l (i : Int) = l[i] := by
 unfold rd_T53
 rw [show (i : Int).toNat = i from rfl, List.getD_eq_getElem?_getD, List.getElem?_eq_getElem h]
 rfl
theorem drop_at {α : Type} {l : List α} {i : Nat} (h : i < l.length) : l.drop i = l[i] :: l.drop (i + 1) := List.drop_eq_getElem_cons h
theorem drop_end {α : Type} {l : List α} {i : Nat} (h : l.length ≤ i) : l.drop i = [] := List.drop_eq_nil_of_le h
theorem ev_all {α β : Type} {q : Nat → α → Option β} {v : α → β} : ∀ (l : List α), (∀ x ∈ l, Ev (fun k => q k x) (v x)) → ∃ K, ∀ k, K ≤ k → ∀ x ∈ l, q k x = some (v x)
 | [], _ => ⟨0, by simp⟩
 | a :: l, h => by
  obtain ⟨K1, h1⟩ := h a (by simp)
  obtain ⟨K2, h2⟩ := ev_all l (fun x hx => h x (by simp [hx]))
  refine ⟨K1 + K2, fun k hk x hx => ?_⟩
  rcases List.mem_cons.1 hx with rfl | hx
  ·exact h1 k (by omega)
  ·exact h2 k (by omega) x hx
def fstI {α : Type} (v : α → Bool) : List α → Int → Int
 | [], _ => -1
 | x :: l, i => if v x = true then i else fstI v l (i + 1)
theorem fstI_nonneg {α : Type} (v : α → Bool) : ∀ (l : List α) (i : Int), 0 ≤ i → (0 ≤ fstI v l i ↔ l.any v = true)
 | [], i, _ => by simp [fstI]
 | x :: l, i, hi => by
  rw [fstI]
  by_cases h : v x = true
  ·rw [if_pos h]; simp [h, hi]
  ·rw [if_neg h, fstI_nonneg v l (i + 1) (by omega)]; simp [h]
theorem q70 (q : S35 → Option Bool) (x : S35) : QF70.f x.f0 x.f1 x.f2 q = q x := by cases x; rfl
theorem q58 (q : S37 → Option Bool) (x : S37) : QF58.f x.f0 x.f1 x.f2.f0 x.f2.f1 x.f2.f2 q = q x := by obtain ⟨a, b, c⟩ := x; cases c; rfl
theorem ixT_l0 (l : List S35) (q : S35 → Option Bool) (v : S35 → Bool) (hq : ∀ x ∈ l, q x = some (v x)) (hl : l.length ≤ 1000000) : ∀ (d i m : Nat), i + d = l.length → d < m → slices_IndexFunc_api_Term.l0 m l q (l.length : Int) (i : Int) = some (fstI v (l.drop i) i)
 | d, i, 0, _, h => absurd h (by omega)
 | 0, i, m + 1, hi, _ => by
  rw [slices_IndexFunc_api_Term.l0, if_neg (by omega), drop_end (by omega)]; rfl
 | d + 1, i, m + 1, hi, hm => by
  have hlt : i < l.length := by omega
  rw [slices_IndexFunc_api_Term.l0, if_pos (by omega), if_pos (by omega), if_pos (by omega), rd35 hlt, drop_at hlt]
  rw [q70 q l[i], hq _ (List.getElem_mem hlt), Option.bind_some, wrapS (by omega) (by omega), show ((i : Int) + 1) = ((i + 1 : Nat) : Int) by omega, ixT_l0 l q v hq hl d (i + 1) m (by omega) (by omega)]
  rw [fstI]
  cases v l[i] <;> simp
theorem cfT {q : Nat → S35 → Option Bool} {v : S35 → Bool} {l : List S35} (hl : l.length ≤ 1000000) (h : ∀ x ∈ l, Ev (fun k => q k x) (v x)) : Ev (fun k => slices_ContainsFunc_api_Term.f k l (q k)) (l.any v) := by
 obtain ⟨K, hK⟩ := ev_all l h
 refine ⟨K + l.length + 1, fun k hk => ?_⟩
 unfold slices_ContainsFunc_api_Term.f slices_IndexFunc_api_Term.f
 have := ixT_l0 l (q k) v (hK k (by omega)) hl l.length 0 k (by omega) (by omega)
 rw [show ((0 : Nat) : Int) = 0 from rfl] at this
 show (slices_IndexFunc_api_Term.l0 k l (q k) (l.length : Int) 0).bind _ = _
 rw [this, Option.bind_some, List.drop_zero]
 congr 1
 have h0 := fstI_nonneg v l 0 (by omega)
 rw [Bool.eq_iff_iff, decide_eq_true_iff]
 exact h0
theorem ixN_l0 (l : List S37) (q : S37 → Option Bool) (v : S37 → Bool) (hq : ∀ x ∈ l, q x = some (v x)) (hl : l.length ≤ 1000000) : ∀ (d i m : Nat), i + d = l.length → d < m → slices_IndexFunc_api_Node.l0 m l q (l.length : Int) (i : Int) = some (fstI v (l.drop i) i)
 | d, i, 0, _, h => absurd h (by omega)
 | 0, i, m + 1, hi, _ => by
  rw [slices_IndexFunc_api_Node.l0, if_neg (by omega), drop_end (by omega)]; rfl
 | d + 1, i, m + 1, hi, hm => by
  have hlt : i < l.length := by omega
  rw [slices_IndexFunc_api_Node.l0, if_pos (by omega), if_pos (by omega), if_pos (by omega), rd37 hlt, drop_at hlt]
  rw [q58 q l[i], hq _ (List.getElem_mem hlt), Option.bind_some, wrapS (by omega) (by omega), show ((i : Int) + 1) = ((i + 1 : Nat) : Int) by omega, ixN_l0 l q v hq hl d (i + 1) m (by omega) (by omega)]
  rw [fstI]
  cases v l[i] <;> simp
theorem ixN {l : List S37} {v : S37 → Bool} (hl : l.length ≤ 1000000) : Ev (fun k => slices_IndexFunc_api_Node.f k l (fun x => some (v x))) (fstI v l 0) := by
 refine ⟨l.length + 1, fun k hk => ?_⟩
 unfold slices_IndexFunc_api_Node.f
 have := ixN_l0 l (fun x => some (v x)) v (fun _ _ => rfl) hl l.length 0 k (by omega) (by omega)
 rw [show ((0 : Nat) : Int) = 0 from rfl] at this
 show slices_IndexFunc_api_Node.l0 k l _ (l.length : Int) 0 = _
 rw [this, List.drop_zero]
def sm : Nat → S35 → Prop
 | 0, _ => False
 | d + 1, t => t.f2.length ≤ 50 ∧ ∀ x ∈ t.f2, sm d x
def dep : Nat → S35 → Int
 | 0, _ => 0
 | d + 1, t => t.f2.foldl (fun m x => if dep d x > m then dep d x else m) 0 + 1
theorem dep_succ (d : Nat) (t : S35) : dep (d + 1) t = t.f2.foldl (fun m x => if dep d x > m then dep d x else m) 0 + 1 := by rw [dep]
theorem fold_ge {f : S35 → Int} : ∀ (l : List S35) (m : Int), m ≤ l.foldl (fun m x => if f x > m then f x else m) m
 | [], m => Int.le_refl m
 | a :: l, m => by
  refine Int.le_trans ?_ (fold_ge l _)
  show m ≤ if f a > m then f a else m
  split <;> omega
theorem fold_gt {f : S35 → Int} (c : Int) : ∀ (l : List S35) (m : Int), (c < l.foldl (fun m x => if f x > m then f x else m) m ↔ c < m ∨ ∃ x ∈ l, c < f x)
 | [], m => by simp
 | a :: l, m => by
  rw [List.foldl_cons, fold_gt c l]
  simp only [List.mem_cons, exists_eq_or_imp]
  by_cases h : f a > m
  ·rw [if_pos h]
   constructor
   ·rintro (h1 | h1)
    ·exact .inr (.inl h1)
    ·exact .inr (.inr h1)
   ·rintro (h1 | h1 | h1)
    ·exact .inl (by omega)
    ·exact .inl h1
    ·exact .inr h1
  ·rw [if_neg h]
   constructor
   ·rintro (h1 | h1)
    ·exact .inl h1
    ·exact .inr (.inr h1)
   ·rintro (h1 | h1 | h1)
    ·exact .inl h1
    ·exact .inl (by omega)
    ·exact .inr h1
theorem dep_pos (d : Nat) (t : S35) (h : sm d t) : 1 ≤ dep d t := by
 cases d with
 | zero => exact h.elim
 | succ d => unfold dep; have := fold_ge (f := dep d) t.f2 0; omega
theorem deep_f : ∀ (d : Nat) (t : S35) (a : Int), sm d t → 0 ≤ a → a ≤ 25 → Ev (fun k => term_deep.f k t.f0 t.f1 t.f2 a) (decide (24 < a + dep d t - 1))
 | 0, t, a, h, _, _ => h.elim
 | d + 1, t, a, h, h0, h1 => by
  refine Ev.step (fun k => by rw [term_deep.f]) ?_
  by_cases hc : a > 24
  ·have hd := dep_pos (d + 1) t h
   simp only [if_pos hc]
   rw [decide_eq_true (by omega)]
   exact Ev.now _
  ·simp only [if_neg hc, wrapS (x := a + 1) (by omega) (by omega)]
   have hk : Ev (fun k => slices_ContainsFunc_api_Term.f k t.f2 (fun x => term_deep.f k x.f0 x.f1 x.f2 (a + 1))) (t.f2.any fun x => decide (24 < (a + 1) + dep d x - 1)) := cfT (q := fun k x => term_deep.f k x.f0 x.f1 x.f2 (a + 1)) (by have := h.1; omega) (fun x hx => deep_f d x (a + 1) (h.2 x hx) (by omega) (by omega))
   have e : (t.f2.any fun x => decide (24 < (a + 1) + dep d x - 1)) = decide (24 < a + dep (d + 1) t - 1) := by
    rw [Bool.eq_iff_iff, decide_eq_true_iff, List.any_eq_true]
    have hg := fold_gt (f := dep d) (24 - a) t.f2 0
    rw [dep_succ]
    constructor
    ·rintro ⟨x, hx, h2⟩
     have := hg.2 (.inr ⟨x, hx, by have := of_decide_eq_true h2; omega⟩)
     omega
    ·intro h2
     rcases hg.1 (by omega) with h3 | ⟨x, hx, h3⟩
     ·omega
     ·exact ⟨x, hx, decide_eq_true (by omega)⟩
   rw [e] at hk
   exact hk
def shp : Nat → S35 → Bool
 | 0, _ => false
 | d + 1, t =>
  if t.f0 = 1 then (decide (((t.f2.length : Nat) : Int) = 0) && decide (0 ≤ t.f1)) && decide (t.f1 ≤ 1099511627776)
  else if t.f0 = 2 then (decide (((t.f2.length : Nat) : Int) = 0) && decide (0 ≤ t.f1)) && decide (t.f1 < 4)
  else if t.f0 < 3 then false
  else if 14 < t.f0 then false
  else if t.f1 = 0 then (if ((t.f2.length : Nat) : Int) = Words.kids t.f0.toNat then t.f2.all (shp d) else false)
  else false
theorem any_not {α : Type} (v : α → Bool) : ∀ l : List α, (!(l.any fun x => !(v x))) = l.all v
 | [] => rfl
 | a :: l => by rw [List.any_cons, List.all_cons, ← any_not v l]; cases v a <;> simp
theorem shaped_f : ∀ (d : Nat) (t : S35), sm d t → Ev (fun k => term_shaped.f k t.f0 t.f1 t.f2) (shp d t)
 | 0, t, h => h.elim
 | d + 1, t, h => by
  refine Ev.step (fun k => by rw [term_shaped.f]) ?_
  unfold shp
  by_cases h1 : t.f0 = 1
  ·simp only [if_pos h1]; exact Ev.now _
  simp only [if_neg h1]
  by_cases h2 : t.f0 = 2
  ·simp only [if_pos h2]; exact Ev.now _
  simp only [if_neg h2]
  by_cases h3 : t.f0 < 3
  ·simp only [if_pos h3]; exact Ev.now _
  simp only [if_neg h3]
  by_cases h4 : 14 < t.f0
  ·simp only [if_pos h4]; exact Ev.now _
  simp only [if_neg h4]
  by_cases h5 : t.f1 = 0
  ·simp only [if_pos h5]
   by_cases h6 : ((t.f2.length : Nat) : Int) = Words.kids t.f0.toNat
   ·simp only [if_pos h6]
    refine Ev.bind (cfT (q := fun k x => (term_shaped.f k x.f0 x.f1 x.f2).bind fun b => some (!b)) (v := fun x => !(shp d x)) (by have := h.1; omega) (fun x hx => ?_)) ?_
    ·exact Ev.bind (shaped_f d x (h.2 x hx)) (Ev.now _)
    ·rw [any_not]; exact Ev.now _
   ·simp only [if_neg h6]; exact Ev.now _
  ·simp only [if_neg h5]; exact Ev.now _
def typ : Nat → S35 → Int
 | 0, _ => 0
 | d + 1, t =>
  if t.f0 = 1 then 1 else if t.f0 = 2 then 1
  else if (t.f2.any fun x => typ d x != Words.of t.f0.toNat) = true then 0 else Words.out t.f0.toNat
theorem shp_op {d : Nat} {t : S35} (h : shp d t = true) : 1 ≤ t.f0 ∧ t.f0 ≤ 14 := by
 cases d with
 | zero => simp [shp] at h
 | succ d =>
  unfold shp at h
  by_cases h1 : t.f0 = 1
  ·omega
  rw [if_neg h1] at h
  by_cases h2 : t.f0 = 2
  ·omega
  rw [if_neg h2] at h
  by_cases h3 : t.f0 < 3
  ·rw [if_pos h3] at h; cases h
  rw [if_neg h3] at h
  by_cases h4 : 14 < t.f0
  ·rw [if_pos h4] at h; cases h
  omega
theorem shp_kids {d : Nat} {t : S35} (h : shp (d + 1) t = true) : ∀ x ∈ t.f2, shp d x = true := by
 unfold shp at h
 have nil : ((t.f2.length : Nat) : Int) = 0 → ∀ x ∈ t.f2, shp d x = true := by
  intro h0 x hx
  have : t.f2 = [] := List.eq_nil_of_length_eq_zero (by omega)
  rw [this] at hx; simp at hx
 by_cases h1 : t.f0 = 1
 ·rw [if_pos h1] at h; simp only [Bool.and_eq_true, decide_eq_true_eq] at h; exact nil h.1.1
 rw [if_neg h1] at h
 by_cases h2 : t.f0 = 2
 ·rw [if_pos h2] at h; simp only [Bool.and_eq_true, decide_eq_true_eq] at h; exact nil h.1.1
 rw [if_neg h2] at h
 by_cases h3 : t.f0 < 3
 ·rw [if_pos h3] at h; cases h
 rw [if_neg h3] at h
 by_cases h4 : 14 < t.f0
 ·rw [if_pos h4] at h; cases h
 rw [if_neg h4] at h
 by_cases h5 : t.f1 = 0
 ·rw [if_pos h5] at h
  by_cases h6 : ((t.f2.length : Nat) : Int) = Words.kids t.f0.toNat
  ·rw [if_pos h6, List.all_eq_true] at h; exact h
  ·rw [if_neg h6] at h; cases h
 ·rw [if_neg h5] at h; cases h
theorem typed_f : ∀ (d : Nat) (t : S35), sm d t → shp d t = true → Ev (fun k => term_typed.f k t.f0 t.f1 t.f2) (typ d t)
 | 0, t, h, _ => h.elim
 | d + 1, t, h, hs => by
  refine Ev.step (fun k => by rw [term_typed.f]) ?_
  have ho := shp_op hs
  unfold typ
  by_cases h1 : t.f0 = 1
  ·simp only [if_pos h1]; exact Ev.now _
  simp only [if_neg h1]
  by_cases h2 : t.f0 = 2
  ·simp only [if_pos h2]; exact Ev.now _
  simp only [if_neg h2, if_pos (show 0 ≤ t.f0 by omega), if_pos (show t.f0 < 15 by omega)]
  refine Ev.bind (cfT (q := fun k x => (term_typed.f k x.f0 x.f1 x.f2).bind fun n => some (n != Words.of t.f0.toNat)) (v := fun x => typ d x != Words.of t.f0.toNat) (by have := h.1; omega) (fun x hx => ?_)) ?_
  ·exact Ev.bind (typed_f d x (h.2 x hx) (shp_kids hs x hx)) (Ev.now _)
  ·exact Ev.now _
def chk (d : Nat) (t : S35) : Int × Int := if dep d t > 24 then (0, 2) else if shp d t = true then (if typ d t = 0 then (0, 30) else (typ d t, 0)) else (0, 4)
theorem check_f {d : Nat} {t : S35} (h : sm d t) : Ev (fun k => term_Check.f k t.f0 t.f1 t.f2) (chk d t) := by
 unfold term_Check.f term_wrong.f chk
 have hd := deep_f d t 1 h (by omega) (by omega)
 rw [show decide (24 < 1 + dep d t - 1) = decide (dep d t > 24) by congr 1; apply propext; omega] at hd
 by_cases h1 : dep d t > 24
 ·rw [decide_eq_true h1] at hd
  rw [if_pos h1]
  refine Ev.bind (a := 2) (Ev.bind hd ?_) ?_
  ·simp only [if_true]; exact Ev.now _
  ·simp only [show ¬ ((2 : Int) = 0) by decide, if_false]; exact Ev.now _
 ·rw [decide_eq_false h1] at hd
  rw [if_neg h1]
  cases h2 : shp d t with
  | false =>
   refine Ev.bind (a := 4) (Ev.bind hd ?_) ?_
   ·simp only [Bool.false_eq_true, if_false]
    have := shaped_f d t h
    rw [h2] at this
    refine Ev.bind this ?_
    simp only [Bool.false_eq_true, if_false]; exact Ev.now _
   ·simp only [show ¬ ((4 : Int) = 0) by decide, if_false, Bool.false_eq_true]; exact Ev.now _
  | true =>
   refine Ev.bind (a := 0) (Ev.bind hd ?_) ?_
   ·simp only [Bool.false_eq_true, if_false]
    have := shaped_f d t h
    rw [h2] at this
    refine Ev.bind this ?_
    simp only [if_true]; exact Ev.now _
   ·simp only [if_true]
    refine Ev.bind (typed_f d t h h2) ?_
    by_cases h3 : typ d t = 0
    ·simp only [if_pos h3]; exact Ev.now _
    ·simp only [if_neg h3]; exact Ev.now _
end Go.Proofs.YtdaeiicdpfghlaaDoor.NP
end
section
set_option linter.unusedVariables false
set_option linter.unusedSimpArgs false
namespace Go.Proofs.YtdaeiicdpfghlaaDoor.NP
open Go.RowKit Go.Proofs.YtdaeiicdpfghlaaDoor.R Go.Proofs.YtdaeiicdpfghlaaDoorW.PrintWords Go.Proofs.YtdaeiicdpfghlaaDoorW.PrintLast
theorem fold_le {f : S35 → Int} {b : Int} : ∀ (l : List S35) (m : Int), m ≤ b → (∀ x ∈ l, f x ≤ b) → l.foldl (fun m x => if f x > m then f x else m) m ≤ b
 | [], m, h, _ => h
 | a :: l, m, h, hl => by
  refine fold_le l _ ?_ (fun x hx => hl x (by simp [hx]))
  show (if f a > m then f a else m) ≤ b
  have := hl a (by simp)
  split <;> omega
theorem dep_le : ∀ (d : Nat) (t : S35), dep d t ≤ d
 | 0, t => by rw [dep]; omega
 | d + 1, t => by
  rw [dep_succ]
  have := fold_le (f := dep d) (b := d) t.f2 0 (by omega) (fun x _ => dep_le d x)
  omega
theorem rdepth_l0 {d : Nat} (hd : d ≤ 1000) (ih : ∀ t, sm d t → Ev (fun k => treenailref03_Depth.f k t.f0 t.f1 t.f2) (dep d t)) (l : List S35) (hl : l.length ≤ 50) (hs : ∀ x ∈ l, sm d x) : ∀ (n i : Nat) (m : Int), i + n = l.length → 0 ≤ m → m ≤ 1000 →
  Ev (fun k => treenailref03_Depth.l0 k m l (l.length : Int) (i : Int)) ((l.drop i).foldl (fun m x => if dep d x > m then dep d x else m) m + 1)
 | 0, i, m, hi, h0, h1 => by
  refine Ev.step (fun k => by rw [treenailref03_Depth.l0]) ?_
  simp only [if_neg (show ¬ (i : Int) < (l.length : Int) by omega), drop_end (show l.length ≤ i by omega), List.foldl_nil, wrapS (x := m + 1) (by omega) (by omega)]
  exact Ev.now _
 | n + 1, i, m, hi, h0, h1 => by
  refine Ev.step (fun k => by rw [treenailref03_Depth.l0]) ?_
  have hlt : i < l.length := by omega
  simp only [if_pos (show (i : Int) < (l.length : Int) by omega), if_pos (show (0 : Int) ≤ (i : Int) by omega), rd35 hlt, drop_at hlt, List.foldl_cons, wrapI (i := i) (by omega)]
  refine Ev.bind (ih _ (hs _ (List.getElem_mem hlt))) ?_
  have hdl := dep_le d l[i]
  by_cases h : dep d l[i] > m
  ·simp only [if_pos h]
   exact rdepth_l0 hd ih l hl hs n (i + 1) _ (by omega) (by omega) (by omega)
  ·simp only [if_neg h]
   exact rdepth_l0 hd ih l hl hs n (i + 1) _ (by omega) (by omega) (by omega)
theorem rdepth_f : ∀ (d : Nat) (t : S35), d ≤ 1000 → sm d t → Ev (fun k => treenailref03_Depth.f k t.f0 t.f1 t.f2) (dep d t)
 | 0, t, _, h => h.elim
 | d + 1, t, hd, h => by
  refine Ev.step (fun k => by rw [treenailref03_Depth.f]) ?_
  rw [dep_succ]
  exact rdepth_l0 (by omega) (fun t ht => rdepth_f d t (by omega) ht) t.f2 h.1 h.2 t.f2.length 0 0 (by omega) (by omega) (by omega)
theorem ops {op : Int} (h0 : 3 ≤ op) (h1 : op ≤ 14) : op = 3 ∨ op = 4 ∨ op = 5 ∨ op = 6 ∨ op = 7 ∨ op = 8 ∨ op = 9 ∨ op = 10 ∨ op = 11 ∨ op = 12 ∨ op = 13 ∨ op = 14 := by omega
theorem kids_eq {op : Int} (h0 : 3 ≤ op) (h1 : op ≤ 14) : Words.kids op.toNat = if op < 5 then 1 else 2 := by
 rcases ops h0 h1 with rfl | rfl | rfl | rfl | rfl | rfl | rfl | rfl | rfl | rfl | rfl | rfl <;> rfl
def tr (op : Int) : Bool := decide (op = 4) || decide (op ≥ 10)
def wants (op : Int) : Bool := decide (op = 4) || decide (op ≥ 13)
theorem out_eq {op : Int} (h0 : 3 ≤ op) (h1 : op ≤ 14) : Words.out op.toNat = if tr op = true then 2 else 1 := by
 rcases ops h0 h1 with rfl | rfl | rfl | rfl | rfl | rfl | rfl | rfl | rfl | rfl | rfl | rfl <;> rfl
theorem of_eq {op : Int} (h0 : 3 ≤ op) (h1 : op ≤ 14) : Words.of op.toNat = if wants op = true then 2 else 1 := by
 rcases ops h0 h1 with rfl | rfl | rfl | rfl | rfl | rfl | rfl | rfl | rfl | rfl | rfl | rfl <;> rfl
theorem rform_l0 {d : Nat} {l : List S35} (ih : ∀ t ∈ l, Ev (fun k => treenailref03_form.f k t.f0 t.f1 t.f2) (shp d t)) (hl : l.length ≤ 50) : ∀ (n i : Nat), i + n = l.length →
  Ev (fun k => treenailref03_form.l0 k l (l.length : Int) (i : Int)) ((l.drop i).all (shp d))
 | 0, i, hi => by
  refine Ev.step (fun k => by rw [treenailref03_form.l0]) ?_
  simp only [if_neg (show ¬ (i : Int) < (l.length : Int) by omega), drop_end (show l.length ≤ i by omega), List.all_nil]
  exact Ev.now _
 | n + 1, i, hi => by
  refine Ev.step (fun k => by rw [treenailref03_form.l0]) ?_
  have hlt : i < l.length := by omega
  simp only [if_pos (show (i : Int) < (l.length : Int) by omega), if_pos (show (0 : Int) ≤ (i : Int) by omega), rd35 hlt, drop_at hlt, List.all_cons, wrapI (i := i) (by omega)]
  refine Ev.bind (ih _ (List.getElem_mem hlt)) ?_
  cases shp d l[i] with
  | true => simp only [if_true, Bool.true_and]; exact rform_l0 ih hl n (i + 1) (by omega)
  | false => simp only [Bool.false_eq_true, if_false, Bool.false_and]; exact Ev.now _
theorem rform_j0t (op n : Int) (l : List S35) : Ev (fun k => treenailref03_form.j0 k true op n l) false := by
 refine Ev.step (fun k => by rw [treenailref03_form.j0]) ?_
 simp only [if_true]
 exact Ev.now _
theorem rform_j1t (op n : Int) (l : List S35) : Ev (fun k => treenailref03_form.j1 k true op n l) false := by
 refine Ev.step (fun k => by rw [treenailref03_form.j1]) ?_
 simp only [if_true]
 exact Ev.now _
theorem rform_j1 {d : Nat} {l : List S35} (ih : ∀ t ∈ l, Ev (fun k => treenailref03_form.f k t.f0 t.f1 t.f2) (shp d t)) (hl : l.length ≤ 50) (op n : Int) : Ev (fun k => treenailref03_form.j1 k false op n l) (l.all (shp d)) := by
 refine Ev.step (fun k => by rw [treenailref03_form.j1]) ?_
 simp only [Bool.false_eq_true, if_false]
 have := rform_l0 ih hl l.length 0 (by omega)
 rwa [List.drop_zero] at this
theorem rform_f : ∀ (d : Nat) (t : S35), sm d t → Ev (fun k => treenailref03_form.f k t.f0 t.f1 t.f2) (shp d t)
 | 0, t, h => h.elim
 | d + 1, t, h => by
  have ih : ∀ x ∈ t.f2, Ev (fun k => treenailref03_form.f k x.f0 x.f1 x.f2) (shp d x) := fun x hx => rform_f d x (h.2 x hx)
  refine Ev.step (fun k => by rw [treenailref03_form.f]) ?_
  by_cases a1 : t.f0 < 1
  ·simp only [if_pos a1]
   have : shp (d + 1) t = false := by rw [shp, if_neg (by omega), if_neg (by omega), if_pos (by omega)]
   rw [this]
   exact rform_j0t _ _ _
  simp only [if_neg a1]
  by_cases a2 : t.f0 > 14
  ·simp only [if_pos a2]
   have : shp (d + 1) t = false := by rw [shp, if_neg (by omega), if_neg (by omega), if_neg (by omega), if_pos (by omega)]
   rw [this]
   exact rform_j0t _ _ _
  simp only [if_neg a2, treenailref03_kids.f]
  by_cases a3 : t.f0 < 3
  ·
   simp only [if_pos a3, Option.bind_some]
   by_cases b : (t.f2.length : Int) = 0
   ·simp only [if_pos b]
    refine Ev.step (fun k => by rw [treenailref03_form.j0]) ?_
    have hnil : t.f2 = [] := List.eq_nil_of_length_eq_zero (by omega)
    by_cases c : t.f1 < 0
    ·simp only [decide_eq_true c, if_true]
     have : shp (d + 1) t = false := by
      rw [shp]
      by_cases e1 : t.f0 = 1
      ·rw [if_pos e1]; simp only [decide_eq_false (show ¬ 0 ≤ t.f1 by omega), Bool.and_false, Bool.false_and]
      ·rw [if_neg e1, if_pos (by omega)]; simp only [decide_eq_false (show ¬ 0 ≤ t.f1 by omega), Bool.and_false, Bool.false_and]
     rw [this]; exact Ev.now _
    ·simp only [decide_eq_false c, Bool.false_eq_true, if_false]
     have ha : Ev (fun k => treenailref03_form.j1 k false t.f0 t.f1 t.f2) true := by
      have := rform_j1 ih h.1 t.f0 t.f1
      rwa [show t.f2.all (shp d) = true by rw [hnil]; rfl] at this
     by_cases e1 : t.f0 = 1
     ·simp only [if_pos e1]
      by_cases e2 : t.f1 > 1099511627776
      ·simp only [if_pos e2]
       have : shp (d + 1) t = false := by rw [shp, if_pos e1]; simp only [decide_eq_false (show ¬ t.f1 ≤ 1099511627776 by omega), Bool.and_false]
       rw [this]; exact rform_j1t _ _ _
      ·simp only [if_neg e2, if_neg (show ¬ t.f0 = 2 by omega), if_neg (show ¬ t.f0 > 2 by omega)]
       have : shp (d + 1) t = true := by rw [shp, if_pos e1]; simp only [decide_eq_true b, decide_eq_true (show 0 ≤ t.f1 by omega), decide_eq_true (show t.f1 ≤ 1099511627776 by omega), Bool.and_true]
       rw [this]; exact ha
     ·have e2 : t.f0 = 2 := by omega
      simp only [if_neg e1, if_pos e2]
      by_cases e3 : t.f1 > 3
      ·simp only [if_pos e3]
       have : shp (d + 1) t = false := by rw [shp, if_neg e1, if_pos e2]; simp only [decide_eq_false (show ¬ t.f1 < 4 by omega), Bool.and_false]
       rw [this]; exact rform_j1t _ _ _
      ·simp only [if_neg e3, if_neg (show ¬ t.f0 > 2 by omega)]
       have : shp (d + 1) t = true := by rw [shp, if_neg e1, if_pos e2]; simp only [decide_eq_true b, decide_eq_true (show 0 ≤ t.f1 by omega), decide_eq_true (show t.f1 < 4 by omega), Bool.and_true]
       rw [this]; exact ha
   ·simp only [if_neg b]
    have : shp (d + 1) t = false := by
     rw [shp]
     by_cases e1 : t.f0 = 1
     ·rw [if_pos e1]; simp only [decide_eq_false b, Bool.false_and]
     ·rw [if_neg e1, if_pos (by omega)]; simp only [decide_eq_false b, Bool.false_and]
    rw [this]; exact rform_j0t _ _ _
  ·have hk : (if t.f0 < 3 then some (0 : Int) else if t.f0 < 5 then some 1 else some 2) = some (Words.kids t.f0.toNat) := by
    rw [if_neg a3, kids_eq (by omega) (by omega)]
    split <;> rfl
   simp only [hk, Option.bind_some]
   have hs : shp (d + 1) t = if t.f1 = 0 then (if ((t.f2.length : Nat) : Int) = Words.kids t.f0.toNat then t.f2.all (shp d) else false) else false := by rw [shp, if_neg (by omega), if_neg (by omega), if_neg (by omega), if_neg (by omega)]
   rw [hs]
   by_cases b : ((t.f2.length : Nat) : Int) = Words.kids t.f0.toNat
   ·simp only [if_pos b]
    refine Ev.step (fun k => by rw [treenailref03_form.j0]) ?_
    by_cases c : t.f1 < 0
    ·simp only [decide_eq_true c, if_true, if_neg (show ¬ t.f1 = 0 by omega)]; exact Ev.now _
    ·simp only [decide_eq_false c, Bool.false_eq_true, if_false, if_neg (show ¬ t.f0 = 1 by omega), if_neg (show ¬ t.f0 = 2 by omega), if_pos (show t.f0 > 2 by omega)]
     by_cases e : t.f1 = 0
     ·simp only [if_pos e, show (t.f1 != 0) = false by rw [e]; rfl]
      exact rform_j1 ih h.1 _ _
     ·simp only [if_neg e, show (t.f1 != 0) = true from bne_iff_ne.mpr e]
      exact rform_j1t _ _ _
   ·simp only [if_neg b]
    rw [show (if t.f1 = 0 then false else false) = false by split <;> rfl]
    exact rform_j0t _ _ _
theorem truth_f (op : Int) : treenailref03_truth.f op = some (tr op) := by
 unfold treenailref03_truth.f tr
 by_cases h : op = 4
 ·rw [if_pos h, decide_eq_true h, Bool.true_or]
 ·rw [if_neg h, decide_eq_false h, Bool.false_or]
theorem typ_or {d : Nat} {t : S35} (h : shp d t = true) : typ d t = 0 ∨ typ d t = if tr t.f0 = true then 2 else 1 := by
 have ho := shp_op h
 cases d with
 | zero => simp [shp] at h
 | succ d =>
  rw [typ]
  by_cases h1 : t.f0 = 1
  ·rw [if_pos h1, h1]; right; rfl
  rw [if_neg h1]
  by_cases h2 : t.f0 = 2
  ·rw [if_pos h2, h2]; right; rfl
  rw [if_neg h2]
  split
  ·exact .inl rfl
  ·exact .inr (out_eq (by omega) (by omega))
theorem rtyped_l0 {d : Nat} {l : List S35} (b : Bool) (ih : ∀ t ∈ l, Ev (fun k => treenailref03_typed.f k t.f0 t.f1 t.f2) (typ d t != 0)) (hl : l.length ≤ 50) : ∀ (n i : Nat), i + n = l.length →
  Ev (fun k => treenailref03_typed.l0 k b l (l.length : Int) (i : Int)) ((l.drop i).all (fun x => (tr x.f0 == b) && (typ d x != 0)))
 | 0, i, hi => by
  refine Ev.step (fun k => by rw [treenailref03_typed.l0]) ?_
  simp only [if_neg (show ¬ (i : Int) < (l.length : Int) by omega), drop_end (show l.length ≤ i by omega), List.all_nil]
  exact Ev.now _
 | n + 1, i, hi => by
  refine Ev.step (fun k => by rw [treenailref03_typed.l0]) ?_
  have hlt : i < l.length := by omega
  simp only [if_pos (show (i : Int) < (l.length : Int) by omega), if_pos (show (0 : Int) ≤ (i : Int) by omega), rd35 hlt, drop_at hlt, List.all_cons, wrapI (i := i) (by omega), truth_f, Option.bind_some]
  by_cases e : tr l[i].f0 = b
  ·simp only [show (tr l[i].f0 != b) = false by rw [e]; simp, show (tr l[i].f0 == b) = true by rw [e]; simp, Bool.false_eq_true, if_false, Bool.true_and]
   refine Ev.bind (ih _ (List.getElem_mem hlt)) ?_
   cases (typ d l[i] != 0) with
   | true => simp only [if_true, Bool.true_and]; exact rtyped_l0 b ih hl n (i + 1) (by omega)
   | false => simp only [Bool.false_eq_true, if_false, Bool.false_and]; exact Ev.now _
  ·simp only [show (tr l[i].f0 != b) = true from bne_iff_ne.mpr e, show (tr l[i].f0 == b) = false from beq_eq_false_iff_ne.mpr e, if_true, Bool.false_and]
   exact Ev.now _
theorem typ_all {d : Nat} {t : S35} (h : shp (d + 1) t = true) : (t.f2.all fun x => (tr x.f0 == wants t.f0) && (typ d x != 0)) = (typ (d + 1) t != 0) := by
 have ho := shp_op h
 have hk := shp_kids h
 by_cases h3 : t.f0 < 3
 ·have hnil : t.f2 = [] := by
   rw [shp] at h
   by_cases e1 : t.f0 = 1
   ·rw [if_pos e1] at h; simp only [Bool.and_eq_true, decide_eq_true_eq] at h; exact List.eq_nil_of_length_eq_zero (by omega)
   ·rw [if_neg e1, if_pos (by omega)] at h; simp only [Bool.and_eq_true, decide_eq_true_eq] at h; exact List.eq_nil_of_length_eq_zero (by omega)
  rw [hnil, List.all_nil, typ]
  by_cases e1 : t.f0 = 1
  ·rw [if_pos e1]; rfl
  ·rw [if_neg e1, if_pos (by omega)]; rfl
 ·have e : typ (d + 1) t = if (t.f2.any fun x => typ d x != Words.of t.f0.toNat) = true then 0 else Words.out t.f0.toNat := by rw [typ, if_neg (by omega), if_neg (by omega)]
  have ho2 : Words.out t.f0.toNat ≠ 0 := by rw [out_eq (by omega) (by omega)]; split <;> decide
  rw [e, of_eq (by omega) (by omega)]
  have key : ∀ x ∈ t.f2, ((tr x.f0 == wants t.f0) && (typ d x != 0)) = !(typ d x != if wants t.f0 = true then 2 else 1) := by
   intro x hx
   rcases typ_or (hk x hx) with h0 | h0
   ·rw [h0]; cases wants t.f0 <;> cases tr x.f0 <;> rfl
   ·rw [h0]; cases wants t.f0 <;> cases tr x.f0 <;> rfl
  have hall : (t.f2.all fun x => (tr x.f0 == wants t.f0) && (typ d x != 0)) = !(t.f2.any fun x => typ d x != if wants t.f0 = true then 2 else 1) := by
   rw [← any_not]
   congr 1
   rw [Bool.eq_iff_iff, List.any_eq_true, List.any_eq_true]
   constructor
   ·rintro ⟨x, hx, h1⟩; rw [key x hx, Bool.not_not] at h1; exact ⟨x, hx, h1⟩
   ·rintro ⟨x, hx, h1⟩; refine ⟨x, hx, ?_⟩; rw [key x hx, Bool.not_not]; exact h1
  rw [hall]
  cases (t.f2.any fun x => typ d x != if wants t.f0 = true then 2 else 1) with
  | true => rfl
  | false => rw [if_neg (by decide), Bool.not_false]; exact (bne_iff_ne.mpr ho2).symm
theorem rtyped_f : ∀ (d : Nat) (t : S35), sm d t → shp d t = true → Ev (fun k => treenailref03_typed.f k t.f0 t.f1 t.f2) (typ d t != 0)
 | 0, t, h, _ => h.elim
 | d + 1, t, h, hs => by
  have ih : ∀ x ∈ t.f2, Ev (fun k => treenailref03_typed.f k x.f0 x.f1 x.f2) (typ d x != 0) := fun x hx => rtyped_f d x (h.2 x hx) (shp_kids hs x hx)
  have hj : Ev (fun k => treenailref03_typed.j0 k (wants t.f0) t.f0 t.f1 t.f2) (typ (d + 1) t != 0) := by
   refine Ev.step (fun k => by rw [treenailref03_typed.j0]) ?_
   have := rtyped_l0 (wants t.f0) ih h.1 t.f2.length 0 (by omega)
   rwa [List.drop_zero, typ_all hs] at this
  refine Ev.step (fun k => by rw [treenailref03_typed.f]) ?_
  by_cases h4 : t.f0 = 4
  ·simp only [if_pos h4]
   rwa [show wants t.f0 = true by rw [h4]; rfl] at hj
  ·simp only [if_neg h4]
   rwa [show wants t.f0 = decide (t.f0 ≥ 13) by unfold wants; rw [decide_eq_false h4, Bool.false_or]] at hj
theorem rcheck_f {d : Nat} {t : S35} (hd : d ≤ 1000) (h : sm d t) : Ev (fun k => treenailref03_Check.f k t.f0 t.f1 t.f2) (chk d t) := by
 unfold treenailref03_Check.f treenailref03_Wrong.f chk
 have hdep := rdepth_f d t hd h
 by_cases h1 : dep d t > 24
 ·rw [if_pos h1]
  refine Ev.bind (a := 2) (Ev.bind hdep ?_) ?_
  ·simp only [if_pos h1]; exact Ev.now _
  ·simp only [show ¬ ((2 : Int) = 0) by decide, if_false]; exact Ev.now _
 ·rw [if_neg h1]
  have hf := rform_f d t h
  cases h2 : shp d t with
  | false =>
   rw [h2] at hf
   refine Ev.bind (a := 4) (Ev.bind hdep ?_) ?_
   ·simp only [if_neg h1]
    refine Ev.bind hf ?_
    simp only [Bool.false_eq_true, if_false]; exact Ev.now _
   ·simp only [show ¬ ((4 : Int) = 0) by decide, if_false, Bool.false_eq_true]; exact Ev.now _
  | true =>
   rw [h2] at hf
   refine Ev.bind (a := 0) (Ev.bind hdep ?_) ?_
   ·simp only [if_neg h1]
    refine Ev.bind hf ?_
    simp only [if_true]; exact Ev.now _
   ·simp only [if_true]
    refine Ev.bind (rtyped_f d t h h2) ?_
    by_cases h3 : typ d t = 0
    ·simp only [h3, show ((0 : Int) != 0) = false from rfl, Bool.false_eq_true, if_false, if_true]; exact Ev.now _
    ·simp only [show (typ d t != 0) = true from bne_iff_ne.mpr h3, if_true, if_neg h3, truth_f, Option.bind_some]
     rcases typ_or h2 with h4 | h4
     ·exact absurd h4 h3
     ·rw [h4]
      cases tr t.f0 with
      | true => simp only [if_true]; exact Ev.now _
      | false => simp only [Bool.false_eq_true, if_false]; exact Ev.now _
end Go.Proofs.YtdaeiicdpfghlaaDoor.NP
end
section
set_option linter.unusedVariables false
set_option linter.unusedSimpArgs false
namespace Go.Proofs.YtdaeiicdpfghlaaDoor.NP
open Go.RowKit Go.Proofs.YtdaeiicdpfghlaaDoor.R Go.Proofs.YtdaeiicdpfghlaaDoorW.PrintWords Go.Proofs.YtdaeiicdpfghlaaDoorW.PrintLast
theorem ldeep_l0 {d : Nat} {a : Int} (ha : 0 ≤ a) (hb : a ≤ 60) (l : List S35) (hl : l.length ≤ 50)
  (ih : ∀ (t : S35) (s : Int), 0 ≤ s → s ≤ 3000 → ∃ b s', Ev (fun k => treenaillaw05_deep.f k t.f0 t.f1 t.f2 s (a + 1)) (b, s') ∧ (b = false → 0 ≤ s' ∧ s' ≤ 3000 ∧ sm d t)) :
  ∀ (n i : Nat) (s : Int), i + n = l.length → 0 ≤ s → s ≤ 3000 → ∃ b s', Ev (fun k => treenaillaw05_deep.l0 k a l (l.length : Int) (i : Int) s) (b, s') ∧ (b = false → 0 ≤ s' ∧ s' ≤ 3000 ∧ ∀ x ∈ l.drop i, sm d x)
 | 0, i, s, hi, h0, h1 => by
  refine ⟨false, s, Ev.step (fun k => by rw [treenaillaw05_deep.l0]) ?_, fun _ => ⟨h0, h1, by rw [drop_end (by omega)]; simp⟩⟩
  simp only [if_neg (show ¬ (i : Int) < (l.length : Int) by omega)]
  exact Ev.now _
 | n + 1, i, s, hi, h0, h1 => by
  have hlt : i < l.length := by omega
  obtain ⟨b, s', he, hs⟩ := ih l[i] s h0 h1
  cases b with
  | true =>
   refine ⟨true, s', Ev.step (fun k => by rw [treenaillaw05_deep.l0]) ?_, fun h => absurd h (by decide)⟩
   simp only [if_pos (show (i : Int) < (l.length : Int) by omega), if_pos (show (0 : Int) ≤ (i : Int) by omega), rd35 hlt, wrapS (x := a + 1) (by omega) (by omega)]
   refine Ev.bind he ?_
   simp only [if_true]
   exact Ev.now _
  | false =>
   obtain ⟨g0, g1, g2⟩ := hs rfl
   obtain ⟨b, s2, he2, hs2⟩ := ldeep_l0 ha hb l hl ih n (i + 1) s' (by omega) g0 g1
   refine ⟨b, s2, Ev.step (fun k => by rw [treenaillaw05_deep.l0]) ?_, fun h => ?_⟩
   ·simp only [if_pos (show (i : Int) < (l.length : Int) by omega), if_pos (show (0 : Int) ≤ (i : Int) by omega), rd35 hlt, wrapS (x := a + 1) (by omega) (by omega), wrapI (i := i) (by omega)]
    refine Ev.bind he ?_
    simp only [Bool.false_eq_true, if_false]
    exact he2
   ·obtain ⟨q0, q1, q2⟩ := hs2 h
    refine ⟨q0, q1, ?_⟩
    rw [drop_at hlt]
    intro x hx
    rcases List.mem_cons.1 hx with rfl | hx
    ·exact g2
    ·exact q2 x hx
theorem ldeep_f : ∀ (d : Nat) (a : Int), 0 ≤ a → a + d = 61 → ∀ (t : S35) (s : Int), 0 ≤ s → s ≤ 3000 → ∃ b s', Ev (fun k => treenaillaw05_deep.f k t.f0 t.f1 t.f2 s a) (b, s') ∧ (b = false → 0 ≤ s' ∧ s' ≤ 3000 ∧ sm d t) := by
 intro d
 induction d with
 | zero =>
  intro a ha hd t s h0 h1
  refine ⟨true, s - 1, Ev.step (fun k => by rw [treenaillaw05_deep.f]) ?_, fun h => absurd h (by decide)⟩
  simp only [wrapS (x := s - 1) (by omega) (by omega), if_pos (show a > 60 by omega)]
  have : Ev (fun k => treenaillaw05_deep.j0 k a true (s - 1) t.f0 t.f1 t.f2) (true, s - 1) := by
   refine Ev.step (fun k => by rw [treenaillaw05_deep.j0]) ?_
   simp only [if_true]
   exact Ev.now _
  by_cases h : s - 1 < 0
  ·simp only [if_pos h]; exact this
  ·simp only [if_neg h]; exact this
 | succ d ih =>
  intro a ha hd t s h0 h1
  have jt : Ev (fun k => treenaillaw05_deep.j0 k a true (s - 1) t.f0 t.f1 t.f2) (true, s - 1) := by
   refine Ev.step (fun k => by rw [treenaillaw05_deep.j0]) ?_
   simp only [if_true]
   exact Ev.now _
  by_cases h : s - 1 < 0
  ·refine ⟨true, s - 1, Ev.step (fun k => by rw [treenaillaw05_deep.f]) ?_, fun h => absurd h (by decide)⟩
   simp only [wrapS (x := s - 1) (by omega) (by omega), if_pos h]
   exact jt
  by_cases hl : (t.f2.length : Int) > 50
  ·refine ⟨true, s - 1, Ev.step (fun k => by rw [treenaillaw05_deep.f]) ?_, fun h => absurd h (by decide)⟩
   simp only [wrapS (x := s - 1) (by omega) (by omega), if_neg h, if_neg (show ¬ a > 60 by omega), decide_eq_true hl]
   exact jt
  obtain ⟨b, s', he, hs⟩ := ldeep_l0 (d := d) ha (by omega) t.f2 (by omega) (fun t s h0 h1 => ih (a + 1) (by omega) (by omega) t s h0 h1) t.f2.length 0 (s - 1) (by omega) (by omega) (by omega)
  refine ⟨b, s', Ev.step (fun k => by rw [treenaillaw05_deep.f]) ?_, fun hb => ?_⟩
  ·simp only [wrapS (x := s - 1) (by omega) (by omega), if_neg h, if_neg (show ¬ a > 60 by omega), decide_eq_false hl]
   refine Ev.step (fun k => by rw [treenaillaw05_deep.j0]) ?_
   simp only [Bool.false_eq_true, if_false]
   exact he
  ·obtain ⟨q0, q1, q2⟩ := hs hb
   rw [List.drop_zero] at q2
   exact ⟨q0, q1, by omega, q2⟩
structure Ok (N : List S37) (F : List S53) : Prop where
 n : N.length ≤ 60
 f : F.length ≤ 100
 tn : ∀ x ∈ N, sm 60 x.f2
 tf : ∀ x ∈ F, sm 60 x.f3
theorem large_l1 (F : List S53) (hf : F.length ≤ 100) : ∀ (n i : Nat) (s : Int), i + n = F.length → 0 ≤ s → s ≤ 3000 → ∃ b, Ev (fun k => treenaillaw05_large.l1 k F (F.length : Int) (i : Int) s) b ∧ (b = false → ∀ x ∈ F.drop i, sm 60 x.f3)
 | 0, i, s, hi, h0, h1 => by
  refine ⟨false, Ev.step (fun k => by rw [treenaillaw05_large.l1]) ?_, fun _ => by rw [drop_end (by omega)]; simp⟩
  simp only [if_neg (show ¬ (i : Int) < (F.length : Int) by omega)]
  exact Ev.now _
 | n + 1, i, s, hi, h0, h1 => by
  have hlt : i < F.length := by omega
  obtain ⟨b, s', he, hs⟩ := ldeep_f 60 1 (by omega) (by omega) F[i].f3 s h0 h1
  cases b with
  | true =>
   refine ⟨true, Ev.step (fun k => by rw [treenaillaw05_large.l1]) ?_, fun h => absurd h (by decide)⟩
   simp only [if_pos (show (i : Int) < (F.length : Int) by omega), if_pos (show (0 : Int) ≤ (i : Int) by omega), rd53 hlt]
   refine Ev.bind he ?_
   simp only [if_true]
   exact Ev.now _
  | false =>
   obtain ⟨g0, g1, g2⟩ := hs rfl
   obtain ⟨b, he2, hs2⟩ := large_l1 F hf n (i + 1) s' (by omega) g0 g1
   refine ⟨b, Ev.step (fun k => by rw [treenaillaw05_large.l1]) ?_, fun h => ?_⟩
   ·simp only [if_pos (show (i : Int) < (F.length : Int) by omega), if_pos (show (0 : Int) ≤ (i : Int) by omega), rd53 hlt, wrapI (i := i) (by omega)]
    refine Ev.bind he ?_
    simp only [Bool.false_eq_true, if_false]
    exact he2
   ·rw [drop_at hlt]
    intro x hx
    rcases List.mem_cons.1 hx with rfl | hx
    ·exact g2
    ·exact hs2 h x hx
theorem large_l0 (N : List S37) (F : List S53) (hn : N.length ≤ 60) (hf : F.length ≤ 100) : ∀ (n i : Nat) (s : Int), i + n = N.length → 0 ≤ s → s ≤ 3000 → ∃ b, Ev (fun k => treenaillaw05_large.l0 k N (N.length : Int) (i : Int) N F s) b ∧ (b = false → (∀ x ∈ N.drop i, sm 60 x.f2) ∧ ∀ x ∈ F, sm 60 x.f3)
 | 0, i, s, hi, h0, h1 => by
  obtain ⟨b, he, hb⟩ := large_l1 F hf F.length 0 s (by omega) h0 h1
  refine ⟨b, Ev.step (fun k => by rw [treenaillaw05_large.l0]) ?_, fun h => ⟨by rw [drop_end (by omega)]; simp, by simpa using hb h⟩⟩
  simp only [if_neg (show ¬ (i : Int) < (N.length : Int) by omega)]
  exact he
 | n + 1, i, s, hi, h0, h1 => by
  have hlt : i < N.length := by omega
  obtain ⟨b, s', he, hs⟩ := ldeep_f 60 1 (by omega) (by omega) N[i].f2 s h0 h1
  cases b with
  | true =>
   refine ⟨true, Ev.step (fun k => by rw [treenaillaw05_large.l0]) ?_, fun h => absurd h (by decide)⟩
   simp only [if_pos (show (i : Int) < (N.length : Int) by omega), if_pos (show (0 : Int) ≤ (i : Int) by omega), rd37 hlt]
   refine Ev.bind he ?_
   simp only [if_true]
   exact Ev.now _
  | false =>
   obtain ⟨g0, g1, g2⟩ := hs rfl
   obtain ⟨b, he2, hs2⟩ := large_l0 N F hn hf n (i + 1) s' (by omega) g0 g1
   refine ⟨b, Ev.step (fun k => by rw [treenaillaw05_large.l0]) ?_, fun h => ⟨?_, (hs2 h).2⟩⟩
   ·simp only [if_pos (show (i : Int) < (N.length : Int) by omega), if_pos (show (0 : Int) ≤ (i : Int) by omega), rd37 hlt, wrapI (i := i) (by omega)]
    refine Ev.bind he ?_
    simp only [Bool.false_eq_true, if_false]
    exact he2
   ·rw [drop_at hlt]
    intro x hx
    rcases List.mem_cons.1 hx with rfl | hx
    ·exact g2
    ·exact (hs2 h).1 x hx
theorem large_f (N : List S37) (F : List S53) : ∃ b, Ev (fun k => treenaillaw05_large.f k N F) b ∧ (b = false → Ok N F) := by
 have jt : Ev (fun k => treenaillaw05_large.j0 k true N F) true := by
  refine Ev.step (fun k => by rw [treenaillaw05_large.j0]) ?_
  simp only [if_true]
  exact Ev.now _
 unfold treenaillaw05_large.f
 by_cases hn : (N.length : Int) > 60
 ·simp only [if_pos hn]
  exact ⟨true, jt, fun h => absurd h (by decide)⟩
 simp only [if_neg hn]
 by_cases hf : (F.length : Int) > 100
 ·simp only [decide_eq_true hf]
  exact ⟨true, jt, fun h => absurd h (by decide)⟩
 simp only [decide_eq_false hf]
 obtain ⟨b, he, hb⟩ := large_l0 N F (by omega) (by omega) N.length 0 3000 (by omega) (by omega) (by omega)
 refine ⟨b, Ev.step (fun k => by rw [treenaillaw05_large.j0]) ?_, fun h => ?_⟩
 ·simp only [Bool.false_eq_true, if_false]; exact he
 ·have := hb h
  rw [List.drop_zero] at this
  exact ⟨by omega, by omega, this.1, this.2⟩
def posI {α : Type} (v : α → Bool) : List α → Int → List Int
 | [], _ => []
 | x :: l, i => if v x = true then i :: posI v l (i + 1) else posI v l (i + 1)
theorem posI_len {α : Type} (v : α → Bool) : ∀ (l : List α) (i : Int), (posI v l i).length ≤ l.length
 | [], _ => Nat.le_refl _
 | x :: l, i => by rw [posI]; have := posI_len v l (i + 1); split <;> simp only [List.length_cons] <;> omega
theorem q61 (q : S53 → Option Bool) (x : S53) : QF61.f x.f0 x.f1 x.f2 x.f3.f0 x.f3.f1 x.f3.f2 q = q x := by obtain ⟨a, b, c, d⟩ := x; cases d; rfl
theorem flows_l0 {F : List S53} {v : S53 → Bool} (hf : F.length ≤ 100) : ∀ (n i : Nat) (acc : List Int), i + n = F.length → acc.length ≤ i →
  Ev (fun k => net_flows.l0 k (fun x => some (v x)) acc F (F.length : Int) (i : Int)) (acc ++ posI v (F.drop i) i)
 | 0, i, acc, hi, ha => by
  refine Ev.step (fun k => by rw [net_flows.l0]) ?_
  simp only [if_neg (show ¬ (i : Int) < (F.length : Int) by omega), drop_end (show F.length ≤ i by omega), posI, List.append_nil]
  exact Ev.now _
 | n + 1, i, acc, hi, ha => by
  refine Ev.step (fun k => by rw [net_flows.l0]) ?_
  have hlt : i < F.length := by omega
  simp only [if_pos (show (i : Int) < (F.length : Int) by omega), if_pos (show (0 : Int) ≤ (i : Int) by omega), rd53 hlt, drop_at hlt, posI, wrapI (i := i) (by omega), q61, Option.bind_some]
  cases v F[i] with
  | true =>
   simp only [if_true, if_pos (show acc.length < 17592186044416 by omega)]
   have := flows_l0 (v := v) hf n (i + 1) (acc ++ [(i : Int)]) (by omega) (by simp; omega)
   rw [List.append_assoc] at this
   exact this
  | false =>
   simp only [Bool.false_eq_true, if_false]
   exact flows_l0 (v := v) hf n (i + 1) acc (by omega) (by omega)
theorem flows_f {N : List S37} {F : List S53} (v : S53 → Bool) (hf : F.length ≤ 100) : Ev (fun k => net_flows.f k N F (fun x => some (v x))) (posI v F 0) := by
 have := flows_l0 (v := v) hf F.length 0 [] (by omega) (by simp)
 rw [List.nil_append, List.drop_zero] at this
 exact this
def ins (F : List S53) (i : Int) : List Int := posI (fun f => f.f1 == i) F 0
def outs (F : List S53) (i : Int) : List Int := posI (fun f => f.f0 == i) F 0
theorem ins_f {N : List S37} {F : List S53} (hf : F.length ≤ 100) (i : Int) : Ev (fun k => net_Ins.f k N F i) (ins F i) := by
 unfold net_Ins.f
 exact Ev.bind (flows_f (fun f => f.f1 == i) hf) (Ev.now _)
theorem outs_f {N : List S37} {F : List S53} (hf : F.length ≤ 100) (i : Int) : Ev (fun k => net_Outs.f k N F i) (outs F i) := by
 unfold net_Outs.f
 exact Ev.bind (flows_f (fun f => f.f0 == i) hf) (Ev.now _)
theorem rins_l0 {F : List S53} (x : Int) (hf : F.length ≤ 100) : ∀ (n i : Nat) (acc : List Int), i + n = F.length → acc.length ≤ i →
  Ev (fun k => treenailref05_Ins.l0 k x acc F (F.length : Int) (i : Int)) (acc ++ posI (fun f => f.f1 == x) (F.drop i) i)
 | 0, i, acc, hi, ha => by
  refine Ev.step (fun k => by rw [treenailref05_Ins.l0]) ?_
  simp only [if_neg (show ¬ (i : Int) < (F.length : Int) by omega), drop_end (show F.length ≤ i by omega), posI, List.append_nil]
  exact Ev.now _
 | n + 1, i, acc, hi, ha => by
  refine Ev.step (fun k => by rw [treenailref05_Ins.l0]) ?_
  have hlt : i < F.length := by omega
  simp only [if_pos (show (i : Int) < (F.length : Int) by omega), if_pos (show (0 : Int) ≤ (i : Int) by omega), rd53 hlt, drop_at hlt, posI, wrapI (i := i) (by omega)]
  by_cases h : F[i].f1 = x
  ·simp only [if_pos h, beq_iff_eq, if_pos (show acc.length < 17592186044416 by omega)]
   have := rins_l0 x hf n (i + 1) (acc ++ [(i : Int)]) (by omega) (by simp; omega)
   rw [List.append_assoc] at this
   exact this
  ·simp only [if_neg h, beq_iff_eq]
   exact rins_l0 x hf n (i + 1) acc (by omega) (by omega)
theorem rins_f {N : List S37} {F : List S53} (hf : F.length ≤ 100) (i : Int) : Ev (fun k => treenailref05_Ins.f k N F i) (ins F i) := by
 have := rins_l0 i hf F.length 0 [] (by omega) (by simp)
 rw [List.nil_append, List.drop_zero] at this
 exact this
theorem routs_l0 {F : List S53} (x : Int) (hf : F.length ≤ 100) : ∀ (n i : Nat) (acc : List Int), i + n = F.length → acc.length ≤ i →
  Ev (fun k => treenailref05_Outs.l0 k x acc F (F.length : Int) (i : Int)) (acc ++ posI (fun f => f.f0 == x) (F.drop i) i)
 | 0, i, acc, hi, ha => by
  refine Ev.step (fun k => by rw [treenailref05_Outs.l0]) ?_
  simp only [if_neg (show ¬ (i : Int) < (F.length : Int) by omega), drop_end (show F.length ≤ i by omega), posI, List.append_nil]
  exact Ev.now _
 | n + 1, i, acc, hi, ha => by
  refine Ev.step (fun k => by rw [treenailref05_Outs.l0]) ?_
  have hlt : i < F.length := by omega
  simp only [if_pos (show (i : Int) < (F.length : Int) by omega), if_pos (show (0 : Int) ≤ (i : Int) by omega), rd53 hlt, drop_at hlt, posI, wrapI (i := i) (by omega)]
  by_cases h : F[i].f0 = x
  ·simp only [if_pos h, beq_iff_eq, if_pos (show acc.length < 17592186044416 by omega)]
   have := routs_l0 x hf n (i + 1) (acc ++ [(i : Int)]) (by omega) (by simp; omega)
   rw [List.append_assoc] at this
   exact this
  ·simp only [if_neg h, beq_iff_eq]
   exact routs_l0 x hf n (i + 1) acc (by omega) (by omega)
theorem routs_f {N : List S37} {F : List S53} (hf : F.length ≤ 100) (i : Int) : Ev (fun k => treenailref05_Outs.f k N F i) (outs F i) := by
 have := routs_l0 i hf F.length 0 [] (by omega) (by simp)
 rw [List.nil_append, List.drop_zero] at this
 exact this
def first (N : List S37) (c : Int) : Int := fstI (fun x => x.f0 == c) N 0
theorem start_f {N : List S37} {F : List S53} (hn : N.length ≤ 1000000) : Ev (fun k => net_Start.f k N F) (first N 1) := by
 unfold net_Start.f
 exact Ev.bind (ixN (v := fun x => x.f0 == 1) hn) (Ev.now _)
theorem end_f {N : List S37} {F : List S53} (hn : N.length ≤ 1000000) : Ev (fun k => net_End.f k N F) (first N 2) := by
 unfold net_End.f
 exact Ev.bind (ixN (v := fun x => x.f0 == 2) hn) (Ev.now _)
theorem rfirst_l0 {N : List S37} (c : Int) (hn : N.length ≤ 1000000) : ∀ (n i : Nat), i + n = N.length →
  Ev (fun k => treenailref05_First.l0 k c N (N.length : Int) (i : Int)) (fstI (fun x => x.f0 == c) (N.drop i) i)
 | 0, i, hi => by
  refine Ev.step (fun k => by rw [treenailref05_First.l0]) ?_
  simp only [if_neg (show ¬ (i : Int) < (N.length : Int) by omega), drop_end (show N.length ≤ i by omega), fstI]
  exact Ev.now _
 | n + 1, i, hi => by
  refine Ev.step (fun k => by rw [treenailref05_First.l0]) ?_
  have hlt : i < N.length := by omega
  simp only [if_pos (show (i : Int) < (N.length : Int) by omega), if_pos (show (0 : Int) ≤ (i : Int) by omega), rd37 hlt, drop_at hlt, fstI, wrapI (i := i) (by omega)]
  by_cases h : N[i].f0 = c
  ·simp only [if_pos h, beq_iff_eq]; exact Ev.now _
  ·simp only [if_neg h, beq_iff_eq]; exact rfirst_l0 c hn n (i + 1) (by omega)
theorem rfirst_f {N : List S37} {F : List S53} (hn : N.length ≤ 1000000) (c : Int) : Ev (fun k => treenailref05_First.f k N F c) (first N c) := by
 have := rfirst_l0 c hn N.length 0 (by omega)
 rw [List.drop_zero] at this
 exact this
theorem of_f {t : S35} (h : sm 60 t) (c : Int) : Ev (fun k => net_of.f k t.f0 t.f1 t.f2 c) (decide ((chk 60 t).2 = 0) && ((chk 60 t).1 == c)) := by
 unfold net_of.f
 refine Ev.bind (check_f h) ?_
 by_cases e : (chk 60 t).2 = 0
 ·simp only [if_pos e, decide_eq_true e, Bool.true_and]; exact Ev.now _
 ·simp only [if_neg e, decide_eq_false e, Bool.false_and]; exact Ev.now _
theorem rof_f {t : S35} (h : sm 60 t) (c : Int) : Ev (fun k => treenailref05_of.f k t.f0 t.f1 t.f2 c) (decide ((chk 60 t).2 = 0) && ((chk 60 t).1 == c)) := by
 unfold treenailref05_of.f
 refine Ev.bind (rcheck_f (by omega) h) ?_
 by_cases e : (chk 60 t).2 = 0
 ·simp only [if_pos e, decide_eq_true e, Bool.true_and]; exact Ev.now _
 ·simp only [if_neg e, decide_eq_false e, Bool.false_and]; exact Ev.now _
def isof (t : S35) (c : Int) : Bool := decide ((chk 60 t).2 = 0) && ((chk 60 t).1 == c)
def isnone (t : S35) : Bool := (decide (t.f0 = 0) && decide (t.f1 = 0)) && ((t.f2.length : Int) == 0)
theorem none_f (t : S35) : net_none.f t.f0 t.f1 t.f2 = some (isnone t) := by
 unfold net_none.f isnone
 by_cases h : t.f0 = 0
 ·rw [if_pos h, decide_eq_true h]
  by_cases h2 : t.f1 = 0
  ·rw [if_pos h2, decide_eq_true h2]; simp
  ·rw [if_neg h2, decide_eq_false h2]; simp
 ·rw [if_neg h, decide_eq_false h]; simp
theorem rnone_f (t : S35) : treenailref05_none.f t.f0 t.f1 t.f2 = some (isnone t) := none_f t
def rgt (x : S37) : Bool :=
 if x.f0 < 1 then false else if x.f0 > 8 then false else if x.f1 < 0 then false
 else if x.f0 = 4 then (if x.f1 < 4 then isof x.f2 1 else false)
 else if x.f0 = 3 then (if x.f1 ≤ 3 then isnone x.f2 else false) else if x.f0 = 8 then (if x.f1 ≤ 4 then isnone x.f2 else false) else if x.f1 ≤ 0 then isnone x.f2 else false
theorem right_f {x : S37} (h : sm 60 x.f2) : Ev (fun k => net_right.f k x.f0 x.f1 x.f2.f0 x.f2.f1 x.f2.f2) (rgt x) := by
 unfold net_right.f rgt
 have hn : net_none.f 0 0 [] = some true := rfl
 by_cases h4 : x.f0 = 4
 ·simp only [if_pos h4, if_neg (show ¬ x.f0 < 1 by omega), if_neg (show ¬ x.f0 > 8 by omega), if_pos (show x.f0 ≥ 1 by omega), if_pos (show x.f0 ≤ 8 by omega), hn, Option.bind_some]
  refine Ev.bind (of_f h 1) ?_
  show Ev _ (if x.f1 < 0 then false else if x.f1 < 4 then isof x.f2 1 else false)
  unfold isof
  cases (decide ((chk 60 x.f2).2 = 0) && ((chk 60 x.f2).1 == 1)) with
  | false => simp only [Bool.false_eq_true, if_false, ite_self]; exact Ev.now _
  | true =>
   simp only [if_true]
   by_cases a : x.f1 < 0
   ·simp only [if_pos a, if_neg (show ¬ x.f1 ≥ 0 by omega)]; exact Ev.now _
   ·simp only [if_neg a, if_pos (show x.f1 ≥ 0 by omega)]
    by_cases b : x.f1 < 4
    ·simp only [if_pos b, if_pos (show x.f1 ≤ 3 by omega)]; exact Ev.now _
    ·simp only [if_neg b, if_neg (show ¬ x.f1 ≤ 3 by omega)]; exact Ev.now _
 ·simp only [if_neg h4, none_f, Option.bind_some]
  by_cases a1 : x.f0 < 1
  ·simp only [if_pos a1, if_neg (show ¬ x.f0 ≥ 1 by omega), ite_self]; exact Ev.now _
  simp only [if_neg a1, if_pos (show x.f0 ≥ 1 by omega)]
  by_cases a2 : x.f0 > 8
  ·simp only [if_pos a2, if_neg (show ¬ x.f0 ≤ 8 by omega), ite_self]; exact Ev.now _
  simp only [if_neg a2, if_pos (show x.f0 ≤ 8 by omega)]
  by_cases a3 : x.f1 < 0
  ·simp only [if_pos a3, if_neg (show ¬ x.f1 ≥ 0 by omega), ite_self]; exact Ev.now _
  simp only [if_neg a3, if_pos (show x.f1 ≥ 0 by omega)]
  by_cases a4 : x.f0 = 3
  ·simp only [if_pos a4]
   by_cases b : x.f1 ≤ 3
   ·simp only [if_pos b]; exact Ev.now _
   ·simp only [if_neg b]; exact Ev.now _
  simp only [if_neg a4]
  by_cases a5 : x.f0 = 8
  ·simp only [if_pos a5]
   by_cases b : x.f1 ≤ 4
   ·simp only [if_pos b]; exact Ev.now _
   ·simp only [if_neg b]; exact Ev.now _
  simp only [if_neg a5]
  by_cases b : x.f1 ≤ 0
  ·simp only [if_pos b]; exact Ev.now _
  ·simp only [if_neg b]; exact Ev.now _
theorem one_f {x : S37} (h : sm 60 x.f2) : Ev (fun k => treenailref05_one.f k x.f0 x.f1 x.f2.f0 x.f2.f1 x.f2.f2) (rgt x) := by
 unfold treenailref05_one.f rgt
 have jt : Ev (fun k => treenailref05_one.j0 k true x.f0 x.f1 x.f2.f0 x.f2.f1 x.f2.f2) false := by
  refine Ev.step (fun k => by rw [treenailref05_one.j0]) ?_
  simp only [if_true]; exact Ev.now _
 by_cases a1 : x.f0 < 1
 ·simp only [if_pos a1]; exact jt
 simp only [if_neg a1]
 by_cases a2 : x.f0 > 8
 ·simp only [if_pos a2]; exact jt
 simp only [if_neg a2]
 by_cases a3 : x.f1 < 0
 ·simp only [if_pos a3, decide_eq_true a3]; exact jt
 simp only [if_neg a3, decide_eq_false a3]
 refine Ev.step (fun k => by rw [treenailref05_one.j0]) ?_
 simp only [Bool.false_eq_true, if_false, rnone_f, Option.bind_some]
 by_cases a4 : x.f0 = 4
 ·simp only [if_pos a4]
  by_cases b : x.f1 < 4
  ·simp only [if_pos b]; exact Ev.bind (rof_f h 1) (Ev.now _)
  ·simp only [if_neg b]; exact Ev.now _
 simp only [if_neg a4]
 by_cases a5 : x.f0 = 3
 ·simp only [if_pos a5, if_neg (show ¬ x.f0 = 8 by omega)]
  by_cases b : x.f1 ≤ 3
  ·simp only [if_pos b]; exact Ev.now _
  ·simp only [if_neg b]; exact Ev.now _
 simp only [if_neg a5]
 by_cases a6 : x.f0 = 8
 ·simp only [if_pos a6]
  by_cases b : x.f1 ≤ 4
  ·simp only [if_pos b]; exact Ev.now _
  ·simp only [if_neg b]; exact Ev.now _
 simp only [if_neg a6]
 by_cases b : x.f1 ≤ 0
 ·simp only [if_pos b]; exact Ev.now _
 ·simp only [if_neg b]; exact Ev.now _
def within (N : List S37) (f : S53) : Bool := if f.f0 < 0 then false else if f.f0 ≥ (N.length : Int) then false else if f.f1 < 0 then false else if f.f1 ≥ (N.length : Int) then false else f.f0 != f.f1
def lds (N : List S37) (F : List S53) (f : S53) : Bool :=
 if within N f = true then
  (if (rd_T37 N f.f0).f0 = 5 ∧ 2 ≤ (outs F f.f0).length then (if f.f2 = true then isnone f.f3 else isof f.f3 2) else if f.f2 = true then false else isnone f.f3)
 else false
theorem leads_f {N : List S37} {F : List S53} (hf : F.length ≤ 100) {f : S53} (h : sm 60 f.f3) : Ev (fun k => net_leads.f k N F f.f0 f.f1 f.f2 f.f3.f0 f.f3.f1 f.f3.f2) (lds N F f) := by
 unfold net_leads.f lds
 have jt : Ev (fun k => net_leads.j0 k true N F f.f0 f.f1 f.f2 f.f3.f0 f.f3.f1 f.f3.f2) false := by
  refine Ev.step (fun k => by rw [net_leads.j0]) ?_
  simp only [if_true]; exact Ev.now _
 have j1t : Ev (fun k => net_leads.j1 k true f.f0 f.f1 f.f2 f.f3.f0 f.f3.f1 f.f3.f2) (if f.f2 = true then false else isnone f.f3) := by
  refine Ev.step (fun k => by rw [net_leads.j1]) ?_
  simp only [if_true, none_f, Option.bind_some]
  cases f.f2 with
  | true => simp only [if_true]; exact Ev.now _
  | false => simp only [Bool.false_eq_true, if_false]; exact Ev.now _
 have j1f : Ev (fun k => net_leads.j1 k false f.f0 f.f1 f.f2 f.f3.f0 f.f3.f1 f.f3.f2) (if f.f2 = true then isnone f.f3 else isof f.f3 2) := by
  refine Ev.step (fun k => by rw [net_leads.j1]) ?_
  simp only [Bool.false_eq_true, if_false, none_f, Option.bind_some]
  cases f.f2 with
  | true => simp only [if_true]; exact Ev.now _
  | false => simp only [Bool.false_eq_true, if_false]; exact Ev.bind (of_f h 2) (Ev.now _)
 have hq : ∀ i, QF64.f i (net_leads_1.q N F) = some (decide (0 ≤ i) && decide (i < (N.length : Int))) := fun i => rfl
 simp only [hq, Option.bind_some]
 by_cases a : (decide (0 ≤ f.f0) && decide (f.f0 < (N.length : Int))) = true
 ·have a' := a
  simp only [Bool.and_eq_true, decide_eq_true_eq] at a'
  simp only [a, if_true]
  by_cases b : (decide (0 ≤ f.f1) && decide (f.f1 < (N.length : Int))) = true
  ·have b' := b
   simp only [Bool.and_eq_true, decide_eq_true_eq] at b'
   have hw : within N f = (f.f0 != f.f1) := by unfold within; rw [if_neg (by omega), if_neg (by omega), if_neg (by omega), if_neg (by omega)]
   simp only [b, if_true, hw]
   by_cases e : f.f0 = f.f1
   ·simp only [show (f.f0 == f.f1) = true from beq_iff_eq.mpr e, show (f.f0 != f.f1) = false from bne_eq_false_iff_eq.mpr e, Bool.false_eq_true, if_false]
    exact jt
   ·simp only [show (f.f0 == f.f1) = false from beq_eq_false_iff_ne.mpr e, show (f.f0 != f.f1) = true from bne_iff_ne.mpr e, if_true]
    refine Ev.step (fun k => by rw [net_leads.j0]) ?_
    simp only [Bool.false_eq_true, if_false, if_pos a'.1, if_pos a'.2]
    by_cases e5 : (rd_T37 N f.f0).f0 = 5
    ·simp only [if_pos e5]
     refine Ev.bind (outs_f hf f.f0) ?_
     by_cases e6 : ((outs F f.f0).length : Int) < 2
     ·simp only [decide_eq_true e6, if_neg (show ¬ ((rd_T37 N f.f0).f0 = 5 ∧ 2 ≤ (outs F f.f0).length) by omega)]
      exact j1t
     ·simp only [decide_eq_false e6, if_pos (show ((rd_T37 N f.f0).f0 = 5 ∧ 2 ≤ (outs F f.f0).length) from ⟨e5, by omega⟩)]
      exact j1f
    ·simp only [if_neg e5, if_neg (show ¬ ((rd_T37 N f.f0).f0 = 5 ∧ 2 ≤ (outs F f.f0).length) from fun h => e5 h.1)]
     exact j1t
  ·have hw : within N f = false := by
    simp only [Bool.and_eq_true, decide_eq_true_eq] at b
    unfold within
    rw [if_neg (by omega), if_neg (by omega)]
    by_cases c : f.f1 < 0
    ·rw [if_pos c]
    ·rw [if_neg c, if_pos (by omega)]
   simp only [Bool.not_eq_true] at b
   simp only [b, hw, Bool.false_eq_true, if_false]
   exact jt
 ·have hw : within N f = false := by
   simp only [Bool.and_eq_true, decide_eq_true_eq] at a
   unfold within
   by_cases c : f.f0 < 0
   ·rw [if_pos c]
   ·rw [if_neg c, if_pos (by omega)]
  simp only [Bool.not_eq_true] at a
  simp only [a, hw, Bool.false_eq_true, if_false]
  exact jt
theorem two_f {N : List S37} {F : List S53} (hf : F.length ≤ 100) {f : S53} (h : sm 60 f.f3) : Ev (fun k => treenailref05_two.f k N F f.f0 f.f1 f.f2 f.f3.f0 f.f3.f1 f.f3.f2) (lds N F f) := by
 unfold treenailref05_two.f lds
 have jt : Ev (fun k => treenailref05_two.j0 k true N F f.f0 f.f1 f.f2 f.f3.f0 f.f3.f1 f.f3.f2) false := by
  refine Ev.step (fun k => by rw [treenailref05_two.j0]) ?_
  simp only [if_true]; exact Ev.now _
 by_cases a1 : f.f0 < 0
 ·simp only [if_pos a1, show within N f = false by unfold within; rw [if_pos a1], Bool.false_eq_true, if_false]; exact jt
 simp only [if_neg a1]
 by_cases a2 : f.f0 ≥ (N.length : Int)
 ·simp only [if_pos a2, show within N f = false by unfold within; rw [if_neg a1, if_pos a2], Bool.false_eq_true, if_false]; exact jt
 simp only [if_neg a2]
 by_cases a3 : f.f1 < 0
 ·simp only [if_pos a3, show within N f = false by unfold within; rw [if_neg a1, if_neg a2, if_pos a3], Bool.false_eq_true, if_false]; exact jt
 simp only [if_neg a3]
 by_cases a4 : f.f1 ≥ (N.length : Int)
 ·simp only [if_pos a4, show within N f = false by unfold within; rw [if_neg a1, if_neg a2, if_neg a3, if_pos a4], Bool.false_eq_true, if_false]; exact jt
 simp only [if_neg a4]
 have hw : within N f = (f.f0 != f.f1) := by unfold within; rw [if_neg a1, if_neg a2, if_neg a3, if_neg a4]
 rw [hw]
 by_cases e : f.f0 = f.f1
 ·simp only [show (f.f0 == f.f1) = true from beq_iff_eq.mpr e, show (f.f0 != f.f1) = false from bne_eq_false_iff_eq.mpr e, Bool.false_eq_true, if_false]
  exact jt
 simp only [show (f.f0 == f.f1) = false from beq_eq_false_iff_ne.mpr e, show (f.f0 != f.f1) = true from bne_iff_ne.mpr e, if_true]
 refine Ev.step (fun k => by rw [treenailref05_two.j0]) ?_
 simp only [Bool.false_eq_true, if_false, if_pos (show 0 ≤ f.f0 by omega), if_pos (show f.f0 < (N.length : Int) by omega)]
 have j1 : ∀ b, Ev (fun k => treenailref05_two.j1 k b N F f.f0 f.f1 f.f2 f.f3.f0 f.f3.f1 f.f3.f2) (if b = true then isof f.f3 2 else if f.f2 = true then (if (rd_T37 N f.f0).f0 = 5 ∧ 2 ≤ (outs F f.f0).length then isnone f.f3 else false) else isnone f.f3) := by
  intro b
  refine Ev.step (fun k => by rw [treenailref05_two.j1]) ?_
  cases b with
  | true => simp only [if_true]; exact Ev.bind (rof_f h 2) (Ev.now _)
  | false =>
   simp only [Bool.false_eq_true, if_false, rnone_f, Option.bind_some]
   cases f.f2 with
   | false => simp only [Bool.false_eq_true, if_false]; exact Ev.now _
   | true =>
    simp only [if_true, if_pos (show 0 ≤ f.f0 by omega), if_pos (show f.f0 < (N.length : Int) by omega)]
    by_cases e5 : (rd_T37 N f.f0).f0 = 5
    ·simp only [if_pos e5]
     refine Ev.bind (routs_f hf f.f0) ?_
     by_cases e6 : ((outs F f.f0).length : Int) < 2
     ·simp only [if_pos e6, if_neg (show ¬ ((rd_T37 N f.f0).f0 = 5 ∧ 2 ≤ (outs F f.f0).length) by omega)]; exact Ev.now _
     ·simp only [if_neg e6, if_pos (show ((rd_T37 N f.f0).f0 = 5 ∧ 2 ≤ (outs F f.f0).length) from ⟨e5, by omega⟩)]; exact Ev.now _
    ·simp only [if_neg e5, if_neg (show ¬ ((rd_T37 N f.f0).f0 = 5 ∧ 2 ≤ (outs F f.f0).length) from fun h => e5 h.1)]; exact Ev.now _
 by_cases e5 : (rd_T37 N f.f0).f0 = 5
 ·simp only [if_pos e5]
  refine Ev.bind (routs_f hf f.f0) ?_
  by_cases e6 : ((outs F f.f0).length : Int) ≥ 2
  ·have hc : ((rd_T37 N f.f0).f0 = 5 ∧ 2 ≤ (outs F f.f0).length) := ⟨e5, by omega⟩
   have := j1 (!f.f2)
   simp only [if_pos hc] at this
   simp only [if_pos e6, if_pos hc]
   cases hb : f.f2 with
   | true => rw [hb] at this; simpa using this
   | false => rw [hb] at this; simpa using this
  ·have hc : ¬ ((rd_T37 N f.f0).f0 = 5 ∧ 2 ≤ (outs F f.f0).length) := by omega
   have := j1 false
   simp only [if_neg hc, Bool.false_eq_true, if_false] at this
   simp only [if_neg e6, if_neg hc]
   exact this
 ·have hc : ¬ ((rd_T37 N f.f0).f0 = 5 ∧ 2 ≤ (outs F f.f0).length) := fun h => e5 h.1
  have := j1 false
  simp only [if_neg hc, Bool.false_eq_true, if_false] at this
  simp only [if_neg e5, if_neg hc]
  exact this
end Go.Proofs.YtdaeiicdpfghlaaDoor.NP
end
section
set_option linter.unusedVariables false
set_option linter.unusedSimpArgs false
namespace Go.Proofs.YtdaeiicdpfghlaaDoor.NP
open Go.RowKit Go.Proofs.YtdaeiicdpfghlaaDoor.R Go.Proofs.YtdaeiicdpfghlaaDoorW.PrintWords Go.Proofs.YtdaeiicdpfghlaaDoorW.PrintLast
theorem rdI {l : List Int} {i : Nat} (h : i < l.length) : rd l (i : Int) = l[i] := by
 unfold rd
 rw [show (i : Int).toNat = i from rfl, List.getD_eq_getElem?_getD, List.getElem?_eq_getElem h]
 rfl
def isE (F : List S53) (j : Int) : Bool := (rd_T53 F j).f2
def isC (N : List S37) (F : List S53) (j : Int) : Bool := (rd_T37 N (rd_T53 F j).f1).f0 == 8
def fin (kd a b e : Int) (c : Bool) : Bool :=
 if kd = 1 then decide (a = 0) && decide (b = 1) else if kd = 2 then decide (a = 1) && decide (b = 0)
 else if kd = 7 then (decide (a = 1) && decide (b > 1)) && c
 else if kd = 5 then ((decide (a = 1) && decide (b > 1)) && decide (e = 1)) || (decide (a > 1) && decide (b = 1))
 else if kd = 6 then (decide (a = 1) && decide (b > 1)) || (decide (a > 1) && decide (b = 1))
 else decide (a = 1) && decide (b = 1)
def Within (N : List S37) (F : List S53) : Prop := ∀ f ∈ F, 0 ≤ f.f0 ∧ f.f0 < (N.length : Int) ∧ 0 ≤ f.f1 ∧ f.f1 < (N.length : Int)
theorem within_iff {N : List S37} {f : S53} (h : within N f = true) : 0 ≤ f.f0 ∧ f.f0 < (N.length : Int) ∧ 0 ≤ f.f1 ∧ f.f1 < (N.length : Int) := by
 unfold within at h
 by_cases a1 : f.f0 < 0
 ·rw [if_pos a1] at h; cases h
 rw [if_neg a1] at h
 by_cases a2 : f.f0 ≥ (N.length : Int)
 ·rw [if_pos a2] at h; cases h
 rw [if_neg a2] at h
 by_cases a3 : f.f1 < 0
 ·rw [if_pos a3] at h; cases h
 rw [if_neg a3] at h
 by_cases a4 : f.f1 ≥ (N.length : Int)
 ·rw [if_pos a4] at h; cases h
 omega
theorem rd53_mem {F : List S53} {j : Int} (h0 : 0 ≤ j) (h1 : j < (F.length : Int)) : rd_T53 F j ∈ F := by
 obtain ⟨n, rfl⟩ := Int.eq_ofNat_of_zero_le h0
 rw [rd53 (by omega)]
 exact List.getElem_mem _
theorem bq (x y : Int) : (x == y) = decide (x = y) := rfl
theorem fin_tree (kd a b e : Int) (c : Bool) : (if kd = 1 then (if a = 0 then (some (b == 1)) else (some false)) else (if kd = 2 then (if a = 1 then (some (b == 0)) else (some false)) else (if kd = 7 then (if a = 1 then (if b > 1 then (some c) else (some false)) else (some false)) else (if kd = 5 then (if a = 1 then (if b > 1 then (if kd = 6 then (some true) else (if e = 1 then (some true) else (if a > 1 then (some (b == 1)) else (some false)))) else (if a > 1 then (some (b == 1)) else (some false))) else (if a > 1 then (some (b == 1)) else (some false))) else (if kd = 6 then (if a = 1 then (if b > 1 then (some true) else (if a > 1 then (some (b == 1)) else (some false))) else (if a > 1 then (some (b == 1)) else (some false))) else (if a = 1 then (some (b == 1)) else (some false))))))) = some (fin kd a b e c) := by
 unfold fin
 simp only [bq]
 by_cases k1 : kd = 1
 ·by_cases a0 : a = 0 <;> simp [k1, a0]
 by_cases k2 : kd = 2
 ·by_cases a0 : a = 1 <;> simp [k2, a0]
 by_cases k7 : kd = 7
 ·by_cases a0 : a = 1 <;> by_cases b1 : b > 1 <;> simp [k7, a0, b1]
 by_cases k5 : kd = 5
 ·by_cases a0 : a = 1 <;> by_cases b1 : b > 1 <;> by_cases e1 : e = 1 <;> by_cases a1 : a > 1 <;> simp [k5, a0, b1, e1, a1]
 by_cases k6 : kd = 6
 ·by_cases a0 : a = 1 <;> by_cases b1 : b > 1 <;> by_cases a1 : a > 1 <;> simp [k6, a0, b1, a1]
 by_cases a0 : a = 1 <;> simp [k1, k2, k7, k5, k6, a0]
theorem fin_tree2 (kd a b e o : Int) : (if kd = 1 then (if a = 0 then (some (b == 1)) else (some false)) else (if kd = 2 then (if a = 1 then (some (b == 0)) else (some false)) else (if kd = 5 then (if a = 1 then (if b ≥ 2 then (if e = 1 then (some true) else (if a ≥ 2 then (some (b == 1)) else (some false))) else (if a ≥ 2 then (some (b == 1)) else (some false))) else (if a ≥ 2 then (some (b == 1)) else (some false))) else (if kd = 6 then (if a = 1 then (if b ≥ 2 then (some true) else (if a ≥ 2 then (some (b == 1)) else (some false))) else (if a ≥ 2 then (some (b == 1)) else (some false))) else (if kd = 7 then (if a = 1 then (if b ≥ 2 then (some (o == 0)) else (some false)) else (some false)) else (if a = 1 then (some (b == 1)) else (some false))))))) = some (fin kd a b e (decide (o = 0))) := by
 unfold fin
 have hbe : (b ≥ 2) = (b > 1) := by apply propext; omega
 have hae : (a ≥ 2) = (a > 1) := by apply propext; omega
 simp only [bq, hbe, hae]
 by_cases k1 : kd = 1
 ·by_cases a0 : a = 0 <;> simp [k1, a0]
 by_cases k2 : kd = 2
 ·by_cases a0 : a = 1 <;> simp [k2, a0]
 by_cases k7 : kd = 7
 ·by_cases a0 : a = 1 <;> by_cases b1 : b > 1 <;> simp [k7, a0, b1]
 by_cases k5 : kd = 5
 ·by_cases a0 : a = 1 <;> by_cases b1 : b > 1 <;> by_cases e1 : e = 1 <;> by_cases a1 : a > 1 <;> simp [k5, a0, b1, e1, a1]
 by_cases k6 : kd = 6
 ·by_cases a0 : a = 1 <;> by_cases b1 : b > 1 <;> by_cases a1 : a > 1 <;> simp [k6, a0, b1, a1]
 by_cases a0 : a = 1 <;> simp [k1, k2, k7, k5, k6, a0]
theorem linked_l0 {N : List S37} {F : List S53} (hW : Within N F) (L : List Int) (hL : ∀ j ∈ L, 0 ≤ j ∧ j < (F.length : Int)) (hl : L.length ≤ 1000) (L0 : List Int) (a kd : Int) : ∀ (n i : Nat) (e : Int) (c : Bool), i + n = L.length → 0 ≤ e → e ≤ i →
  Ev (fun k => net_linked.l0 k L0 a kd e c L (L.length : Int) (i : Int) N F) (fin kd a (L0.length : Int) (e + ((L.drop i).filter (isE F)).length) (c && (L.drop i).all (isC N F)))
 | 0, i, e, c, hi, h0, h1 => by
  refine Ev.step (fun k => by rw [net_linked.l0]) ?_
  simp only [if_neg (show ¬ (i : Int) < (L.length : Int) by omega), drop_end (show L.length ≤ i by omega), List.filter_nil, List.length_nil, List.all_nil, Bool.and_true, show e + ((0 : Nat) : Int) = e by omega]
  generalize (L0.length : Int) = b
  exact Ev.congr (f := fun _ => some (fin kd a b e c)) (fun k => fin_tree kd a b e c) (Ev.now _)
 | n + 1, i, e, c, hi, h0, h1 => by
  refine Ev.step (fun k => by rw [net_linked.l0]) ?_
  have hlt : i < L.length := by omega
  have hj := hL _ (List.getElem_mem hlt)
  have hw := hW _ (rd53_mem hj.1 hj.2)
  simp only [if_pos (show (i : Int) < (L.length : Int) by omega), if_pos (show (0 : Int) ≤ (i : Int) by omega), rdI hlt, if_pos hj.1, if_pos hj.2, if_pos hw.2.2.1, if_pos hw.2.2.2, wrapI (i := i) (by omega), wrapS (x := e + 1) (by omega) (by omega), drop_at hlt, List.filter_cons, List.all_cons]
  have eE : (rd_T53 F L[i]).f2 = isE F L[i] := rfl
  have eC : ((rd_T37 N (rd_T53 F L[i]).f1).f0 == 8) = isC N F L[i] := rfl
  rw [eE, eC]
  cases hE : isE F L[i] with
  | true =>
   simp only [if_true, List.length_cons]
   have ih := linked_l0 hW L hL hl L0 a kd n (i + 1) (e + 1)
   cases c with
   | true =>
    simp only [if_true, Bool.true_and]
    have := ih (isC N F L[i]) (by omega) (by omega) (by omega)
    rwa [show e + 1 + (((L.drop (i + 1)).filter (isE F)).length : Int) = e + ((((L.drop (i + 1)).filter (isE F)).length + 1 : Nat) : Int) by omega] at this
   | false =>
    simp only [Bool.false_eq_true, if_false, Bool.false_and]
    have := ih false (by omega) (by omega) (by omega)
    rwa [Bool.false_and, show e + 1 + (((L.drop (i + 1)).filter (isE F)).length : Int) = e + ((((L.drop (i + 1)).filter (isE F)).length + 1 : Nat) : Int) by omega] at this
  | false =>
   simp only [Bool.false_eq_true, if_false]
   have ih := linked_l0 hW L hL hl L0 a kd n (i + 1) e
   cases c with
   | true =>
    simp only [if_true, Bool.true_and]
    exact ih (isC N F L[i]) (by omega) (by omega) (by omega)
   | false =>
    simp only [Bool.false_eq_true, if_false, Bool.false_and]
    have := ih false (by omega) (by omega) (by omega)
    rwa [Bool.false_and] at this
theorem three_l0 {N : List S37} {F : List S53} (hW : Within N F) (L : List Int) (hL : ∀ j ∈ L, 0 ≤ j ∧ j < (F.length : Int)) (hl : L.length ≤ 1000) (x a b : Int) (hx0 : 0 ≤ x) (hx1 : x < (N.length : Int)) (hb : 0 ≤ b) : ∀ (n i : Nat) (e o : Int), i + n = L.length → 0 ≤ e → e ≤ i → 0 ≤ o → o ≤ i →
  Ev (fun k => treenailref05_three.l0 k x a b e o L (L.length : Int) (i : Int) N F) (fin (rd_T37 N x).f0 a b (e + ((L.drop i).filter (isE F)).length) (decide (o = 0) && (L.drop i).all (isC N F)))
 | 0, i, e, o, hi, h0, h1, h2, h3 => by
  refine Ev.step (fun k => by rw [treenailref05_three.l0]) ?_
  simp only [if_neg (show ¬ (i : Int) < (L.length : Int) by omega), drop_end (show L.length ≤ i by omega), List.filter_nil, List.length_nil, List.all_nil, Bool.and_true, show e + ((0 : Nat) : Int) = e by omega, if_pos hx0, if_pos hx1]
  generalize (rd_T37 N x).f0 = kd
  exact Ev.congr (f := fun _ => some (fin kd a b e (decide (o = 0)))) (fun k => fin_tree2 kd a b e o) (Ev.now _)
 | n + 1, i, e, o, hi, h0, h1, h2, h3 => by
  refine Ev.step (fun k => by rw [treenailref05_three.l0]) ?_
  have hlt : i < L.length := by omega
  have hj := hL _ (List.getElem_mem hlt)
  have hw := hW _ (rd53_mem hj.1 hj.2)
  simp only [if_pos (show (i : Int) < (L.length : Int) by omega), if_pos (show (0 : Int) ≤ (i : Int) by omega), rdI hlt, if_pos hj.1, if_pos hj.2, if_pos hw.2.2.1, if_pos hw.2.2.2, wrapI (i := i) (by omega), wrapS (x := e + 1) (by omega) (by omega), wrapS (x := o + 1) (by omega) (by omega), drop_at hlt, List.filter_cons, List.all_cons]
  have eE : (rd_T53 F L[i]).f2 = isE F L[i] := rfl
  have eC : isC N F L[i] = decide ((rd_T37 N (rd_T53 F L[i]).f1).f0 = 8) := by unfold isC; rw [Bool.eq_iff_iff]; simp
  rw [eE, eC]
  have ih := three_l0 hW L hL hl x a b hx0 hx1 hb n (i + 1)
  cases hE : isE F L[i] with
  | true =>
   simp only [if_true, List.length_cons]
   rw [show e + ((((L.drop (i + 1)).filter (isE F)).length + 1 : Nat) : Int) = e + 1 + (((L.drop (i + 1)).filter (isE F)).length : Int) by omega]
   by_cases h8 : (rd_T37 N (rd_T53 F L[i]).f1).f0 = 8
   ·simp only [if_pos h8, decide_eq_true h8, Bool.true_and]
    exact ih (e + 1) o (by omega) (by omega) (by omega) (by omega) (by omega)
   ·simp only [if_neg h8, decide_eq_false h8, Bool.false_and, Bool.and_false]
    have := ih (e + 1) (o + 1) (by omega) (by omega) (by omega) (by omega) (by omega)
    rwa [decide_eq_false (show ¬ o + 1 = 0 by omega), Bool.false_and] at this
  | false =>
   simp only [Bool.false_eq_true, if_false]
   by_cases h8 : (rd_T37 N (rd_T53 F L[i]).f1).f0 = 8
   ·simp only [if_pos h8, decide_eq_true h8, Bool.true_and]
    exact ih e o (by omega) (by omega) (by omega) (by omega) (by omega)
   ·simp only [if_neg h8, decide_eq_false h8, Bool.false_and, Bool.and_false]
    have := ih e (o + 1) (by omega) (by omega) (by omega) (by omega) (by omega)
    rwa [decide_eq_false (show ¬ o + 1 = 0 by omega), Bool.false_and] at this
theorem posI_mem {α : Type} (v : α → Bool) : ∀ (l : List α) (i j : Int), j ∈ posI v l i → i ≤ j ∧ j < i + l.length
 | [], i, j, h => by simp [posI] at h
 | x :: l, i, j, h => by
  rw [posI] at h
  have key : j ∈ posI v l (i + 1) → i ≤ j ∧ j < i + (x :: l).length := by
   intro h
   have := posI_mem v l (i + 1) j h
   simp only [List.length_cons]
   omega
  split at h
  ·rcases List.mem_cons.1 h with rfl | h
   ·simp only [List.length_cons]; omega
   ·exact key h
  ·exact key h
def lnk (N : List S37) (F : List S53) (i : Int) : Bool := fin (rd_T37 N i).f0 ((ins F i).length : Int) ((outs F i).length : Int) (((outs F i).filter (isE F)).length : Int) ((outs F i).all (isC N F))
theorem outs_in {F : List S53} {i : Int} : ∀ j ∈ outs F i, 0 ≤ j ∧ j < (F.length : Int) := by
 intro j hj
 have := posI_mem _ F 0 j hj
 omega
theorem outs_len (F : List S53) (i : Int) : (outs F i).length ≤ F.length := posI_len _ _ _
theorem linked_f {N : List S37} {F : List S53} (hf : F.length ≤ 100) (hW : Within N F) {i : Int} (h0 : 0 ≤ i) (h1 : i < (N.length : Int)) : Ev (fun k => net_linked.f k N F i) (lnk N F i) := by
 unfold net_linked.f lnk
 refine Ev.bind (outs_f hf i) (Ev.bind (ins_f hf i) ?_)
 simp only [if_pos h0, if_pos h1]
 have := linked_l0 hW (outs F i) outs_in (by have := outs_len F i; omega) (outs F i) ((ins F i).length : Int) (rd_T37 N i).f0 (outs F i).length 0 0 true (by omega) (by omega) (by omega)
 simpa using this
theorem three_f {N : List S37} {F : List S53} (hf : F.length ≤ 100) (hW : Within N F) {i : Int} (h0 : 0 ≤ i) (h1 : i < (N.length : Int)) : Ev (fun k => treenailref05_three.f k N F i) (lnk N F i) := by
 unfold treenailref05_three.f lnk
 refine Ev.bind (rins_f hf i) (Ev.bind (routs_f hf i) ?_)
 have := three_l0 hW (outs F i) outs_in (by have := outs_len F i; omega) i ((ins F i).length : Int) ((outs F i).length : Int) h0 h1 (by omega) (outs F i).length 0 0 0 (by omega) (by omega) (by omega) (by omega) (by omega)
 simpa using this
end Go.Proofs.YtdaeiicdpfghlaaDoor.NP
end
section
set_option linter.unusedVariables false
set_option linter.unusedSimpArgs false
namespace Go.Proofs.YtdaeiicdpfghlaaDoor.NP
open Go.RowKit Go.Proofs.YtdaeiicdpfghlaaDoor.R Go.Proofs.YtdaeiicdpfghlaaDoorW.PrintWords Go.Proofs.YtdaeiicdpfghlaaDoorW.PrintLast
def closed (P : List (Nat × Nat)) (u : Nat → Prop) : Prop := ∀ p ∈ P, u p.1 → u p.2
def T (t : List Bool) (i : Nat) : Prop := t.getD i false = true
instance (t : List Bool) (i : Nat) : Decidable (T t i) := by unfold T; infer_instance
def IsCl (P : List (Nat × Nat)) (s : Nat → Prop) (r : List Bool) : Prop := (∀ i, s i → T r i) ∧ closed P (T r) ∧ ∀ u : Nat → Prop, closed P u → (∀ i, s i → u i) → ∀ i, T r i → u i
def inCl (P : List (Nat × Nat)) (s : Nat → Prop) (j : Nat) : Prop := ∀ u : Nat → Prop, closed P u → (∀ i, s i → u i) → u j
theorem IsCl.iff {P : List (Nat × Nat)} {s : Nat → Prop} {r : List Bool} (h : IsCl P s r) (j : Nat) : T r j ↔ inCl P s j :=
 ⟨fun hj u hu hs => h.2.2 u hu hs j hj, fun hj => hj (T r) h.2.1 h.1⟩
theorem T_lt {t : List Bool} {i : Nat} (h : T t i) : i < t.length := by
 unfold T at h
 rcases Nat.lt_or_ge i t.length with h1 | h1
 ·exact h1
 ·rw [List.getD_eq_getElem?_getD, List.getElem?_eq_none h1] at h
  cases h
theorem T_set {t : List Bool} {j : Nat} (hj : j < t.length) (i : Nat) : T (t.set j true) i ↔ i = j ∨ T t i := by
 unfold T
 rw [List.getD_eq_getElem?_getD, List.getD_eq_getElem?_getD, List.getElem?_set]
 by_cases h : j = i
 ·subst h
  simp [hj]
 ·rw [if_neg h]
  simp [Ne.symm h]
theorem T_rep (n i : Nat) : ¬ T (List.replicate n false) i := by
 unfold T
 rw [List.getD_eq_getElem?_getD, List.getElem?_replicate]
 split <;> simp
theorem rdT (t : List Bool) (i : Nat) : rdOf false t (i : Int) = t.getD i false := by unfold rdOf; rw [show (i : Int).toNat = i from rfl]
def falses (t : List Bool) : Nat := t.count false
theorem falses_set : ∀ {t : List Bool} {j : Nat}, j < t.length → ¬ T t j → falses (t.set j true) + 1 = falses t
 | a :: t, 0, h, hn => by
  have e : a = false := by simpa [T] using hn
  subst e
  simp [falses]
 | a :: t, j + 1, h, hn => by
  have := falses_set (t := t) (j := j) (by simpa using h) (by simpa [T] using hn)
  simp only [falses, List.set_cons_succ, List.count_cons] at this ⊢
  omega
theorem falses_le (t : List Bool) : falses t ≤ t.length := List.count_le_length
theorem set_same {t : List Bool} {j : Nat} (h : T t j) : t.set j true = t := by
 have hj := T_lt h
 have e : t[j] = true := by
  unfold T at h
  rwa [List.getD_eq_getElem?_getD, List.getElem?_eq_getElem hj] at h
 conv => rhs; rw [← List.set_getElem_self hj]
 rw [e]
theorem all_true : ∀ {t : List Bool}, falses t = 0 → ∀ i, i < t.length → T t i
 | a :: t, h, 0, hi => by cases a <;> simp_all [falses, T]
 | a :: t, h, i + 1, hi => by
  have h2 : falses t = 0 := by cases a <;> simp_all [falses, List.count_cons]
  have := all_true h2 i (by simpa using hi)
  simpa [T] using this
def ed (back : Bool) (f : S53) : Nat × Nat := if back = true then (f.f1.toNat, f.f0.toNat) else (f.f0.toNat, f.f1.toNat)
def eds (back : Bool) (F : List S53) : List (Nat × Nat) := F.map (ed back)
def adds (back : Bool) (i : Int) (F : List S53) : List Int := (F.filter (fun f => (if back = true then f.f1 else f.f0) == i)).map (fun f => if back = true then f.f0 else f.f1)
theorem adds_len (back : Bool) (i : Int) (F : List S53) : (adds back i F).length ≤ F.length := by unfold adds; rw [List.length_map]; exact List.length_filter_le _ _
theorem adds_cons (back : Bool) (i : Int) (f : S53) (F : List S53) : adds back i (f :: F) = if ((if back = true then f.f1 else f.f0) == i) = true then (if back = true then f.f0 else f.f1) :: adds back i F else adds back i F := by
 unfold adds
 rw [List.filter_cons]
 by_cases h : ((if back = true then f.f1 else f.f0) == i) = true
 ·rw [if_pos h, if_pos h]; rfl
 ·rw [if_neg h, if_neg h]
theorem met_l1 {N : List S37} {F : List S53} (back : Bool) (seen : List Bool) (i : Int) (r : List Bool) (hf : F.length ≤ 100) : ∀ (d x : Nat) (todo : List Int), x + d = F.length → todo.length + d ≤ 1000000 →
  Ev (fun k => net_met.l0 k back seen (todo ++ adds back i (F.drop x)) N F) r → Ev (fun k => net_met.l1 k back seen todo i F (F.length : Int) (x : Int) N F) r
 | 0, x, todo, hx, ht, h => by
  refine Ev.step (fun k => by rw [net_met.l1]) ?_
  simp only [if_neg (show ¬ (x : Int) < (F.length : Int) by omega)]
  rwa [drop_end (by omega), show adds back i [] = [] from rfl, List.append_nil] at h
 | d + 1, x, todo, hx, ht, h => by
  have hlt : x < F.length := by omega
  rw [drop_at hlt, adds_cons] at h
  have go : ∀ b : Bool, b = (back && (F[x].f1 == i)) → Ev (fun k => net_met.j2 k back seen todo i F (F.length : Int) (x : Int) b N F F[x].f0 F[x].f1 F[x].f2 F[x].f3.f0 F[x].f3.f1 F[x].f3.f2) r := by
   intro b hb
   refine Ev.step (fun k => by rw [net_met.j2]) ?_
   simp only [wrapI (i := x) (by omega)]
   cases b with
   | true =>
    have e := hb.symm
    rw [Bool.and_eq_true] at e
    rw [e.1] at h ⊢
    simp only [if_true, e.2] at h
    simp only [if_true, if_pos (show todo.length < 17592186044416 by omega)]
    refine met_l1 true seen i r hf d (x + 1) (todo ++ [F[x].f0]) (by omega) (by rw [List.length_append]; simp only [List.length_singleton]; omega) ?_
    rwa [List.append_assoc]
   | false =>
    simp only [Bool.false_eq_true, if_false]
    cases back with
    | true =>
     rw [Bool.true_and] at hb
     simp only [if_true, ← hb, Bool.false_eq_true, if_false] at h
     simp only [if_true]
     exact met_l1 true seen i r hf d (x + 1) todo (by omega) (by omega) h
    | false =>
     simp only [Bool.false_eq_true, if_false, beq_iff_eq] at h
     simp only [Bool.false_eq_true, if_false]
     by_cases e : F[x].f0 = i
     ·simp only [if_pos e] at h
      simp only [if_pos e, if_pos (show todo.length < 17592186044416 by omega)]
      refine met_l1 false seen i r hf d (x + 1) (todo ++ [F[x].f1]) (by omega) (by rw [List.length_append]; simp only [List.length_singleton]; omega) ?_
      rwa [List.append_assoc]
     ·simp only [if_neg e] at h
      simp only [if_neg e]
      exact met_l1 false seen i r hf d (x + 1) todo (by omega) (by omega) h
  refine Ev.step (fun k => by rw [net_met.l1]) ?_
  simp only [if_pos (show (x : Int) < (F.length : Int) by omega), if_pos (show (0 : Int) ≤ (x : Int) by omega), rd53 hlt]
  cases hb : back with
  | true =>
   simp only [if_true]
   rw [hb] at go
   exact go (F[x].f1 == i) (by simp)
  | false =>
   simp only [Bool.false_eq_true, if_false]
   rw [hb] at go
   exact go false (by simp)
theorem met_l0 {N : List S37} {F : List S53} (hf : F.length ≤ 100) (hn : N.length ≤ 100) (hW : Within N F) (back : Bool) (m : Nat) : ∀ (seen : List Bool) (todo : List Int), falses seen * (F.length + 1) + todo.length = m → m ≤ 900000 → seen.length = N.length → (∀ j ∈ todo, 0 ≤ j ∧ j < (N.length : Int)) →
  (∀ p ∈ eds back F, T seen p.1 → T seen p.2 ∨ (p.2 : Int) ∈ todo) →
  ∃ r, Ev (fun k => net_met.l0 k back seen todo N F) r ∧ r.length = N.length ∧ IsCl (eds back F) (fun i => T seen i ∨ (i : Int) ∈ todo) r := by
 induction m using Nat.strongRecOn with
 | _ m ih =>
  intro seen todo hm hb hs ht hi
  cases todo with
  | nil =>
   refine ⟨seen, Ev.step (fun k => by rw [net_met.l0]) ?_, hs, ?_, ?_, ?_⟩
   ·simp only [List.length_nil, show ¬ (((0 : Nat) : Int) > 0) by decide, if_false]
    exact Ev.now _
   ·intro i h; rcases h with h | h
    ·exact h
    ·simp at h
   ·intro p hp h; rcases hi p hp h with h | h
    ·exact h
    ·simp at h
   ·intro u hu hsu i h; exact hsu i (.inl h)
  | cons j rest =>
   have hj := ht j (by simp)
   obtain ⟨q, rfl⟩ := Int.eq_ofNat_of_zero_le hj.1
   have hq : q < seen.length := by omega
   rw [List.length_cons] at hm
   have e1 : rd ((q : Int) :: rest) 0 = (q : Int) := rfl
   have e2 : ((q : Int) :: rest).drop (1 : Int).toNat = rest := rfl
   by_cases h : T seen q
   ·obtain ⟨r, he, hr, h1, h2, h3⟩ := ih (falses seen * (F.length + 1) + rest.length) (by omega) seen rest rfl (by omega) hs (fun j hj => ht j (by simp [hj])) (fun p hp hh => by
     rcases hi p hp hh with h4 | h4
     ·exact .inl h4
     ·rcases List.mem_cons.1 h4 with h5 | h5
      ·rw [show p.2 = q by omega]; exact .inl h
      ·exact .inr h5)
    refine ⟨r, Ev.step (fun k => by rw [net_met.l0]) ?_, hr, ?_, h2, ?_⟩
    ·simp only [e1, e2, List.length_cons, if_pos (show (((rest.length + 1 : Nat) : Int) > 0) by omega), if_pos (show (0 : Int) < ((rest.length + 1 : Nat) : Int) by omega), if_pos (show (1 : Int) ≤ ((rest.length + 1 : Nat) : Int) by omega), Option.bind_some, if_pos (show (0 : Int) ≤ (q : Int) by omega), if_pos (show (q : Int) < (seen.length : Int) by omega), rdT]
     rw [show seen.getD q false = true from h]
     simp only [if_true]
     exact he
    ·intro i hh
     rcases hh with hh | hh
     ·exact h1 i (.inl hh)
     ·rcases List.mem_cons.1 hh with h5 | h5
      ·rw [show i = q by omega]; exact h1 q (.inl h)
      ·exact h1 i (.inr h5)
    ·intro u hu hsu i hh
     exact h3 u hu (fun i hi => hsu i (by
      rcases hi with hi | hi
      ·exact .inl hi
      ·exact .inr (List.mem_cons_of_mem _ hi))) i hh
   ·have hfs := falses_set hq h
    have hal := adds_len back (q : Int) F
    have hmul : falses seen * (F.length + 1) = falses (seen.set q true) * (F.length + 1) + (F.length + 1) := by rw [← hfs, Nat.add_mul, Nat.one_mul]
    have hmem : ∀ x, x ∈ adds back (q : Int) F ↔ ∃ p ∈ eds back F, p.1 = q ∧ (p.2 : Int) = x := by
     intro x
     unfold adds eds
     rw [List.mem_map]
     constructor
     ·rintro ⟨f, hf1, rfl⟩
      obtain ⟨hf1, hf2⟩ := List.mem_filter.1 hf1
      have hw := hW f hf1
      refine ⟨ed back f, List.mem_map.2 ⟨f, hf1, rfl⟩, ?_⟩
      simp only [beq_iff_eq] at hf2
      unfold ed
      cases back
      ·simp only [Bool.false_eq_true, if_false] at hf2 ⊢; omega
      ·simp only [if_true] at hf2 ⊢; omega
     ·rintro ⟨p, hp, h1, h2⟩
      obtain ⟨f, hf1, rfl⟩ := List.mem_map.1 hp
      have hw := hW f hf1
      refine ⟨f, List.mem_filter.2 ⟨hf1, ?_⟩, ?_⟩
      ·simp only [beq_iff_eq]
       unfold ed at h1
       cases back
       ·simp only [Bool.false_eq_true, if_false] at h1 ⊢; omega
       ·simp only [if_true] at h1 ⊢; omega
      ·unfold ed at h2
       cases back
       ·simp only [Bool.false_eq_true, if_false] at h2 ⊢; omega
       ·simp only [if_true] at h2 ⊢; omega
    have hval : ∀ p ∈ eds back F, p.2 < N.length := by
     intro p hp
     obtain ⟨f, hf1, rfl⟩ := List.mem_map.1 hp
     have hw := hW f hf1
     unfold ed
     cases back
     ·simp only [Bool.false_eq_true, if_false]; omega
     ·simp only [if_true]; omega
    obtain ⟨r, he, hr, h1, h2, h3⟩ := ih (falses (seen.set q true) * (F.length + 1) + (rest ++ adds back (q : Int) F).length) (by rw [List.length_append]; omega) (seen.set q true) (rest ++ adds back (q : Int) F) rfl (by rw [List.length_append]; omega) (by simpa using hs)
     (fun j hj => by
      rcases List.mem_append.1 hj with hj | hj
      ·exact ht j (by simp [hj])
      ·obtain ⟨p, hp, _, rfl⟩ := (hmem j).1 hj
       have := hval p hp
       omega)
     (fun p hp hh => by
      rcases (T_set hq _).1 hh with h4 | h4
      ·exact .inr (List.mem_append.2 (.inr ((hmem _).2 ⟨p, hp, h4, rfl⟩)))
      ·rcases hi p hp h4 with h5 | h5
       ·exact .inl ((T_set hq _).2 (.inr h5))
       ·rcases List.mem_cons.1 h5 with h6 | h6
        ·exact .inl ((T_set hq _).2 (.inl (by omega)))
        ·exact .inr (List.mem_append.2 (.inl h6)))
    refine ⟨r, Ev.step (fun k => by rw [net_met.l0]) ?_, hr, ?_, h2, ?_⟩
    ·simp only [e1, e2, List.length_cons, if_pos (show (((rest.length + 1 : Nat) : Int) > 0) by omega), if_pos (show (0 : Int) < ((rest.length + 1 : Nat) : Int) by omega), if_pos (show (1 : Int) ≤ ((rest.length + 1 : Nat) : Int) by omega), Option.bind_some, if_pos (show (0 : Int) ≤ (q : Int) by omega), if_pos (show (q : Int) < (seen.length : Int) by omega), rdT]
     rw [show seen.getD q false = false by unfold T at h; simpa using h]
     simp only [Bool.false_eq_true, if_false, show ((q : Nat) : Int).toNat = q from rfl]
     refine met_l1 back (seen.set q true) (q : Int) r hf F.length 0 rest (by omega) (by omega) ?_
     rwa [List.drop_zero]
    ·intro i hh
     rcases hh with hh | hh
     ·exact h1 i (.inl ((T_set hq _).2 (.inr hh)))
     ·rcases List.mem_cons.1 hh with h5 | h5
      ·exact h1 i (.inl ((T_set hq _).2 (.inl (by omega))))
      ·exact h1 i (.inr (List.mem_append.2 (.inl h5)))
    ·intro u hu hsu i hh
     have huq : u q := hsu q (.inr (by simp))
     refine h3 u hu (fun i hi => ?_) i hh
     rcases hi with hi | hi
     ·rcases (T_set hq _).1 hi with h4 | h4
      ·rw [h4]; exact huq
      ·exact hsu i (.inl h4)
     ·rcases List.mem_append.1 hi with h4 | h4
      ·exact hsu i (.inr (List.mem_cons_of_mem _ h4))
      ·obtain ⟨p, hp, h5, h6⟩ := (hmem _).1 h4
       rw [show i = p.2 by omega]
       exact hu p hp (by rw [h5]; exact huq)
theorem met_f {N : List S37} {F : List S53} (hf : F.length ≤ 100) (hn : N.length ≤ 100) (hW : Within N F) (back : Bool) {a : Nat} (ha : a < N.length) :
  ∃ r, Ev (fun k => net_met.f k N F (a : Int) back) r ∧ r.length = N.length ∧ ∀ i, T r i ↔ inCl (eds back F) (fun q => q = a) i := by
 have hfl : falses (List.replicate N.length false) ≤ N.length := by have := falses_le (List.replicate N.length false); simpa using this
 obtain ⟨r, he, hr, hc⟩ := met_l0 hf hn hW back _ (List.replicate N.length false) [(a : Int)] rfl (by
   have : falses (List.replicate N.length false) * (F.length + 1) ≤ 100 * 101 := Nat.mul_le_mul (by omega) (by omega)
   simp only [List.length_singleton]; omega) (by simp) (fun j hj => by simp only [List.mem_singleton] at hj; omega) (fun p _ h => absurd h (T_rep _ _))
 refine ⟨r, ?_, hr, fun i => ?_⟩
 ·unfold net_met.f
  simp only [if_pos (show (0 : Int) ≤ (N.length : Int) by omega), show ((N.length : Nat) : Int).toNat = N.length from rfl, if_pos (show N.length ≤ 281474976710656 by omega)]
  exact he
 ·rw [hc.iff]
  constructor
  ·intro h u hu hs
   refine h u hu (fun i hi => ?_)
   rcases hi with hi | hi
   ·exact absurd hi (T_rep _ _)
   ·simp only [List.mem_singleton] at hi
    exact hs i (by omega)
  ·intro h u hu hs
   exact h u hu (fun i hi => hs i (.inr (by rw [hi]; simp)))
theorem reach_l0 {N : List S37} {F : List S53} (hf : F.length ≤ 100) (hn : N.length ≤ 100) (hW : Within N F) (d : Nat) : ∀ (x : Nat) (t : List Bool), x + d = N.length → t.length = N.length → (closed (eds false F) (T t) ∨ falses t + x ≤ N.length) →
  ∃ r, Ev (fun k => treenailref05_Reach.l0 k t (N.length : Int) (x : Int) N F) r ∧ r.length = N.length ∧ IsCl (eds false F) (T t) r := by
 induction d with
 | zero =>
  intro x t hx ht hs
  refine ⟨t, Ev.step (fun k => by rw [treenailref05_Reach.l0]) ?_, ht, fun _ h => h, ?_, fun _ _ h => h⟩
  ·simp only [if_neg (show ¬ (x : Int) < (N.length : Int) by omega)]
   exact Ev.now _
  ·rcases hs with hs | hs
   ·exact hs
   ·intro p hp _
    obtain ⟨f, hf1, rfl⟩ := List.mem_map.1 hp
    have hw := hW f hf1
    exact all_true (by omega) _ (by unfold ed; simp only [Bool.false_eq_true, if_false]; omega)
 | succ d ih =>
  intro x t hx ht hs
  have pass : ∀ (c i : Nat) (u : List Bool), i + c = F.length → u.length = N.length → (∀ j, T t j → T u j) → (∀ v : Nat → Prop, closed (eds false F) v → (∀ j, T t j → v j) → ∀ j, T u j → v j) →
    ((u = t ∧ ∀ j, (hj : j < F.length) → j < i → T t (ed false F[j]).1 → T t (ed false F[j]).2) ∨ (falses u < falses t ∧ ¬ closed (eds false F) (T t))) →
    ∃ r, Ev (fun k => treenailref05_Reach.l1 k u (N.length : Int) (x : Int) F (F.length : Int) (i : Int) N F) r ∧ r.length = N.length ∧ IsCl (eds false F) (T t) r := by
   intro c
   induction c with
   | zero =>
    intro i u hi hu h1 h2 h3
    obtain ⟨r, e1, e2, e3, e4, e5⟩ := ih (x + 1) u (by omega) hu (by
     rcases h3 with ⟨rfl, h3⟩ | ⟨h3, h4⟩
     ·left
      intro p hp hh
      obtain ⟨f, hf1, rfl⟩ := List.mem_map.1 hp
      obtain ⟨j, hj, rfl⟩ := List.getElem_of_mem hf1
      exact h3 j hj (by omega) hh
     ·right
      rcases hs with hs | hs
      ·exact absurd hs h4
      ·omega)
    refine ⟨r, Ev.step (fun k => by rw [treenailref05_Reach.l1]) ?_, e2, fun j hj => e3 j (h1 j hj), e4, fun v hv hs' => e5 v hv (h2 v hv hs')⟩
    simp only [if_neg (show ¬ (i : Int) < (F.length : Int) by omega), wrapI (i := x) (by omega)]
    exact e1
   | succ c ihc =>
    intro i u hi hu h1 h2 h3
    have hlt : i < F.length := by omega
    have hw := hW _ (List.getElem_mem hlt)
    have hp : ed false F[i] ∈ eds false F := List.mem_map.2 ⟨_, List.getElem_mem hlt, rfl⟩
    have ef : ed false F[i] = (F[i].f0.toNat, F[i].f1.toNat) := by unfold ed; simp
    obtain ⟨p, hp1⟩ := Int.eq_ofNat_of_zero_le hw.1
    obtain ⟨q, hq1⟩ := Int.eq_ofNat_of_zero_le hw.2.2.1
    have ef1 : (ed false F[i]).1 = p := by rw [ef, hp1]; rfl
    have ef2 : (ed false F[i]).2 = q := by rw [ef, hq1]; rfl
    have hpl : p < u.length := by omega
    have hql : q < u.length := by omega
    by_cases hfr : T u p
    ·have next : ∃ r, Ev (fun k => treenailref05_Reach.l1 k (u.set q true) (N.length : Int) (x : Int) F (F.length : Int) ((i + 1 : Nat) : Int) N F) r ∧ r.length = N.length ∧ IsCl (eds false F) (T t) r := by
      refine ihc (i + 1) (u.set q true) (by omega) (by simpa using hu) ?_ ?_ ?_
      ·intro j hj
       exact (T_set hql j).2 (.inr (h1 j hj))
      ·intro v hv' hs' j hj
       rcases (T_set hql j).1 hj with rfl | hj
       ·have := hv' _ hp (by rw [ef1]; exact h2 v hv' hs' _ hfr)
        rwa [ef2] at this
       ·exact h2 v hv' hs' j hj
      ·by_cases hg : T u q
       ·rw [set_same hg]
        rcases h3 with ⟨rfl, h3⟩ | h3
        ·refine .inl ⟨rfl, fun j hj hji hh => ?_⟩
         rcases Nat.lt_or_ge j i with h4 | h4
         ·exact h3 j hj h4 hh
         ·have : j = i := by omega
          subst this
          rw [ef2]; exact hg
        ·exact .inr h3
       ·have hfs := falses_set (t := u) (j := q) hql hg
        right
        rcases h3 with ⟨rfl, h3⟩ | ⟨h3, h4⟩
        ·exact ⟨by omega, fun hst => hg (by have := hst _ hp (by rw [ef1]; exact hfr); rwa [ef2] at this)⟩
        ·exact ⟨by omega, h4⟩
     obtain ⟨r, e1, e2, e3⟩ := next
     refine ⟨r, Ev.step (fun k => by rw [treenailref05_Reach.l1]) ?_, e2, e3⟩
     simp only [if_pos (show (i : Int) < (F.length : Int) by omega), if_pos (show (0 : Int) ≤ (i : Int) by omega), rd53 hlt, hp1, hq1, if_pos (show (0 : Int) ≤ (p : Int) by omega), if_pos (show (0 : Int) ≤ (q : Int) by omega), if_pos (show (p : Int) < (u.length : Int) by omega), if_pos (show (q : Int) < (u.length : Int) by omega), rdT, wrapI (i := i) (by omega), show ((q : Nat) : Int).toNat = q from rfl]
     rw [show u.getD p false = true from hfr]
     simp only [if_true]
     exact e1
    ·have next : ∃ r, Ev (fun k => treenailref05_Reach.l1 k u (N.length : Int) (x : Int) F (F.length : Int) ((i + 1 : Nat) : Int) N F) r ∧ r.length = N.length ∧ IsCl (eds false F) (T t) r := by
      refine ihc (i + 1) u (by omega) hu h1 h2 ?_
      rcases h3 with ⟨rfl, h3⟩ | h3
      ·refine .inl ⟨rfl, fun j hj hji hh => ?_⟩
       rcases Nat.lt_or_ge j i with h4 | h4
       ·exact h3 j hj h4 hh
       ·have : j = i := by omega
        subst this
        rw [ef1] at hh
        exact absurd hh hfr
      ·exact .inr h3
     obtain ⟨r, e1, e2, e3⟩ := next
     refine ⟨r, Ev.step (fun k => by rw [treenailref05_Reach.l1]) ?_, e2, e3⟩
     simp only [if_pos (show (i : Int) < (F.length : Int) by omega), if_pos (show (0 : Int) ≤ (i : Int) by omega), rd53 hlt, hp1, hq1, if_pos (show (0 : Int) ≤ (p : Int) by omega), if_pos (show (0 : Int) ≤ (q : Int) by omega), if_pos (show (p : Int) < (u.length : Int) by omega), if_pos (show (q : Int) < (u.length : Int) by omega), rdT, wrapI (i := i) (by omega)]
     rw [show u.getD p false = false by unfold T at hfr; simpa using hfr]
     simp only [Bool.false_eq_true, if_false]
     exact e1
  obtain ⟨r, h1, h2⟩ := pass F.length 0 t (by omega) ht (fun _ h => h) (fun _ _ h => h) (.inl ⟨rfl, fun j hj h0 => absurd h0 (by omega)⟩)
  refine ⟨r, Ev.step (fun k => by rw [treenailref05_Reach.l0]) ?_, h2⟩
  simp only [if_pos (show (x : Int) < (N.length : Int) by omega)]
  exact h1
theorem falses_rep_set {n a : Nat} (h : a < n) : falses ((List.replicate n false).set a true) + 0 ≤ n := by have := falses_le ((List.replicate n false).set a true); simpa using this
theorem reach_f {N : List S37} {F : List S53} (hf : F.length ≤ 100) (hn : N.length ≤ 100) (hW : Within N F) {a : Nat} (ha : a < N.length) :
  ∃ r, Ev (fun k => treenailref05_Reach.f k N F (a : Int)) r ∧ r.length = N.length ∧ ∀ i, T r i ↔ inCl (eds false F) (fun q => q = a) i := by
 obtain ⟨r, he, hr, hc⟩ := reach_l0 hf hn hW N.length 0 ((List.replicate N.length false).set a true) (by omega) (by simp) (.inr (falses_rep_set ha))
 refine ⟨r, ?_, hr, fun i => ?_⟩
 ·unfold treenailref05_Reach.f
  simp only [if_pos (show (0 : Int) ≤ (N.length : Int) by omega), show ((N.length : Nat) : Int).toNat = N.length from rfl, if_pos (show N.length ≤ 281474976710656 by omega), Option.bind_some, if_pos (show (0 : Int) ≤ (a : Int) by omega), List.length_replicate, if_pos (show (a : Int) < (N.length : Int) by omega), show ((a : Nat) : Int).toNat = a from rfl]
  exact he
 ·rw [hc.iff]
  have hT : ∀ i, T ((List.replicate N.length false).set a true) i ↔ i = a := by
   intro i
   rw [T_set (by simpa using ha)]
   constructor
   ·rintro (h | h)
    ·exact h
    ·exact absurd h (T_rep _ _)
   ·exact .inl
  constructor
  ·intro h u hu hs; exact h u hu (fun i hi => hs i ((hT i).1 hi))
  ·intro h u hu hs; exact h u hu (fun i hi => hs i ((hT i).2 hi))
def road (F : List S53) (a b : Nat) : Prop := inCl (eds false F) (fun q => q = a) b
theorem road_back (F : List S53) (a b : Nat) : inCl (eds true F) (fun q => q = b) a ↔ road F a b := by
 have ht : ∀ f : S53, ed true f = ((ed false f).2, (ed false f).1) := fun f => by unfold ed; simp
 constructor
 ·intro h
  refine h (fun i => road F i b) ?_ (fun i hi => ?_)
  ·intro p hp hh u hu hs
   obtain ⟨f, hf1, rfl⟩ := List.mem_map.1 hp
   rw [ht] at hh hs
   refine hh u hu (fun i hi => ?_)
   rw [hi]
   exact hu (ed false f) (List.mem_map.2 ⟨f, hf1, rfl⟩) (hs _ rfl)
  ·intro u hu hs
   exact hs b hi.symm
 ·intro h u hu hs
  refine h (fun i => u i → u a) ?_ (fun i hi hi2 => by rw [← hi]; exact hi2) (hs b rfl)
  intro p hp h1 h2
  obtain ⟨f, hf1, rfl⟩ := List.mem_map.1 hp
  have := hu (ed true f) (List.mem_map.2 ⟨f, hf1, rfl⟩)
  rw [ht] at this
  exact h1 (this h2)
end Go.Proofs.YtdaeiicdpfghlaaDoor.NP
end
section
set_option linter.unusedVariables false
set_option linter.unusedSimpArgs false
namespace Go.Proofs.YtdaeiicdpfghlaaDoor.NP
open Go.RowKit Go.Proofs.YtdaeiicdpfghlaaDoor.R Go.Proofs.YtdaeiicdpfghlaaDoorW.PrintWords Go.Proofs.YtdaeiicdpfghlaaDoorW.PrintLast
def plcI (r : Int) (v : Int → Bool) : Nat → Int → List S47
 | 0, _ => []
 | d + 1, i => if v i = true then (⟨r, i⟩ : S47) :: plcI r v d (i + 1) else plcI r v d (i + 1)
theorem plcI_len (r : Int) (v : Int → Bool) : ∀ (d : Nat) (i : Int), (plcI r v d i).length ≤ d
 | 0, _ => Nat.le_refl _
 | d + 1, i => by rw [plcI]; have := plcI_len r v d (i + 1); split <;> (try simp only [List.length_cons]) <;> omega
theorem plcI_nil {r : Int} {v : Int → Bool} : ∀ {d : Nat} {i : Int}, plcI r v d i = [] → ∀ j, i ≤ j → j < i + d → v j = false
 | 0, i, _, j, h0, h1 => by omega
 | d + 1, i, h, j, h0, h1 => by
  rw [plcI] at h
  cases hv : v i with
  | true => rw [hv, if_pos rfl] at h; cases h
  | false =>
   rw [hv, if_neg (by decide)] at h
   by_cases e : j = i
   ·rw [e]; exact hv
   ·exact plcI_nil h j (by omega) (by omega)
theorem places_l0 {n : Nat} (r : Int) (q : Int → Option Bool) (v : Int → Bool) (hq : ∀ i, 0 ≤ i → i < (n : Int) → q i = some (v i)) (hn : n ≤ 1000000) : ∀ (d i m : Nat) (acc : List S47), i + d = n → d < m → acc.length ≤ i → net_places.l0 m r q acc (n : Int) (i : Int) = some (acc ++ plcI r v d i)
 | d, i, 0, acc, _, h, _ => absurd h (by omega)
 | 0, i, m + 1, acc, hi, _, ha => by rw [net_places.l0, if_neg (by omega), plcI, List.append_nil]
 | d + 1, i, m + 1, acc, hi, hm, ha => by
  rw [net_places.l0, if_pos (by omega), show QF64.f (i : Int) q = q (i : Int) from rfl, hq i (by omega) (by omega), Option.bind_some, wrapI (by omega), plcI]
  cases v i with
  | true =>
   simp only [if_true]
   rw [if_pos (by omega), places_l0 r q v hq hn d (i + 1) m _ (by omega) (by omega) (by rw [List.length_append]; simp only [List.length_singleton]; omega), List.append_assoc]
   rfl
  | false =>
   simp only [Bool.false_eq_true, if_false]
   exact places_l0 r q v hq hn d (i + 1) m acc (by omega) (by omega) (by omega)
theorem places_f {n : Nat} (r : Int) {q : Nat → Int → Option Bool} {v : Int → Bool} (hn : n ≤ 1000000) (h : ∀ i : Nat, i < n → Ev (fun k => q k (i : Int)) (v i)) : Ev (fun k => net_places.f k r (n : Int) (q k)) (plcI r v n 0) := by
 obtain ⟨K, hK⟩ := ev_all (q := fun k (i : Nat) => q k (i : Int)) (v := fun i : Nat => v i) (List.range n) (fun i hi => h i (List.mem_range.1 hi))
 refine ⟨K + n + 1, fun k hk => ?_⟩
 unfold net_places.f
 have := places_l0 r (q k) v (fun i h0 h1 => by
  obtain ⟨m, rfl⟩ := Int.eq_ofNat_of_zero_le h0
  exact hK k (by omega) m (List.mem_range.2 (by omega))) hn n 0 k [] (by omega) (by omega) (by simp)
 rw [List.nil_append] at this
 exact this
def v1 (N : List S37) (i : Int) : Bool := !(rgt (rd_T37 N i))
def v2 (N : List S37) (F : List S53) (i : Int) : Bool := !(lds N F (rd_T53 F i))
def v3 (N : List S37) (F : List S53) (i : Int) : Bool := (!(lnk N F i) || ((rd_T37 N i).f0 == 1 && i != first N 1)) || ((rd_T37 N i).f0 == 2 && i != first N 2)
noncomputable def v4 (F : List S53) (s e i : Int) : Bool := @decide (¬ (road F s.toNat i.toNat ∧ road F i.toNat e.toNat)) (Classical.propDecidable _)
theorem v4_iff (F : List S53) (s e i : Int) : v4 F s e i = true ↔ ¬ (road F s.toNat i.toNat ∧ road F i.toNat e.toNat) := by unfold v4; exact @decide_eq_true_iff _ (Classical.propDecidable _)
def lost (N : List S37) : Bool := decide (first N 1 < 0) || decide (first N 2 < 0)
def P1 (N : List S37) : List S47 := plcI 1 (v1 N) N.length 0
def P2 (N : List S37) (F : List S53) : List S47 := plcI 2 (v2 N F) F.length 0
def P3 (N : List S37) (F : List S53) : List S47 := plcI 3 (v3 N F) N.length 0 ++ (if lost N = true then [(⟨3, (N.length : Int)⟩ : S47)] else [])
noncomputable def P4 (N : List S37) (F : List S53) : List S47 := plcI 4 (v4 F (first N 1) (first N 2)) N.length 0
def big (N : List S37) (F : List S53) : Prop := N.length > 24 ∨ F.length > 40
instance (N : List S37) (F : List S53) : Decidable (big N F) := by unfold big; infer_instance
noncomputable def allV (N : List S37) (F : List S53) : List S47 :=
 if big N F then [(⟨1, 0⟩ : S47)] else if (P1 N).length > 0 then P1 N else if (P2 N F).length > 0 then P2 N F else if (P3 N F).length > 0 then P3 N F else P4 N F
theorem nil_of {α : Type} {l : List α} (h : ¬ l.length > 0) : l = [] := List.eq_nil_of_length_eq_zero (by omega)
theorem rd37_mem {N : List S37} {j : Int} (h0 : 0 ≤ j) (h1 : j < (N.length : Int)) : rd_T37 N j ∈ N := by
 obtain ⟨n, rfl⟩ := Int.eq_ofNat_of_zero_le h0
 rw [rd37 (by omega)]
 exact List.getElem_mem _
theorem within_of {N : List S37} {F : List S53} (h : P2 N F = []) : Within N F := by
 intro f hf
 obtain ⟨j, hj, rfl⟩ := List.getElem_of_mem hf
 have := plcI_nil h (j : Int) (by omega) (by omega)
 unfold v2 at this
 rw [rd53 hj] at this
 have hl : lds N F F[j] = true := by cases hh : lds N F F[j] <;> simp_all
 unfold lds at hl
 by_cases hw : within N F[j] = true
 ·exact within_iff hw
 ·rw [if_neg hw] at hl; cases hl
theorem fst_lt {α : Type} (v : α → Bool) : ∀ (l : List α) (i : Int), fstI v l i < i + l.length ∨ fstI v l i = -1
 | [], i => .inr rfl
 | x :: l, i => by
  rw [fstI]
  split
  ·left; simp only [List.length_cons]; omega
  ·rcases fst_lt v l (i + 1) with h | h
   ·left; simp only [List.length_cons]; omega
   ·exact .inr h
theorem first_lt {N : List S37} {c : Int} (h : 0 ≤ first N c) : first N c < (N.length : Int) := by
 rcases fst_lt (fun x : S37 => x.f0 == c) N 0 with h1 | h1
 ·unfold first; omega
 ·unfold first at h; omega
theorem fst_le {α : Type} (v : α → Bool) : ∀ (l : List α) (i : Int) (j : Nat) (hj : j < l.length), v l[j] = true → fstI v l i ≤ i + j
 | x :: l, i, 0, hj, h => by rw [fstI, if_pos (by simpa using h)]; omega
 | x :: l, i, j + 1, hj, h => by
  rw [fstI]
  split
  ·omega
  ·have := fst_le v l (i + 1) j (by simpa using hj) (by simpa using h)
   omega
theorem first_le {N : List S37} {c i : Int} (h0 : 0 ≤ i) (h1 : i < (N.length : Int)) (hc : (rd_T37 N i).f0 = c) : first N c ≤ i := by
 obtain ⟨n, rfl⟩ := Int.eq_ofNat_of_zero_le h0
 rw [rd37 (by omega)] at hc
 have := fst_le (fun x : S37 => x.f0 == c) N 0 n (by omega) (by simpa using hc)
 unfold first
 omega
theorem third_f {N : List S37} {F : List S53} (h : Ok N F) (hW : Within N F) : Ev (fun k => net_third.f k N F) (P3 N F) := by
 unfold net_third.f P3 lost
 have hn := h.n
 refine Ev.bind (start_f (by omega)) (Ev.bind (end_f (by omega)) ?_)
 have hp : Ev (fun k => net_places.f k 3 (N.length : Int) (net_third_1.q k N F (first N 1) (first N 2))) (plcI 3 (v3 N F) N.length 0) := by
  refine places_f 3 (q := fun k => net_third_1.q k N F (first N 1) (first N 2)) (by omega) (fun i hi => ?_)
  unfold net_third_1.q
  simp only [if_pos (show (0 : Int) ≤ (i : Int) by omega), if_pos (show (i : Int) < (N.length : Int) by omega)]
  exact Ev.bind (linked_f h.f hW (by omega) (by omega)) (Ev.now _)
 refine Ev.bind hp ?_
 have hlen := plcI_len 3 (v3 N F) N.length 0
 by_cases a : first N 1 < 0
 ·simp only [if_pos a, if_pos (show (plcI 3 (v3 N F) N.length 0).length < 8796093022208 by omega), decide_eq_true a, Bool.true_or, if_true]; exact Ev.now _
 ·simp only [if_neg a, decide_eq_false a, Bool.false_or]
  by_cases b : first N 2 < 0
  ·simp only [if_pos b, if_pos (show (plcI 3 (v3 N F) N.length 0).length < 8796093022208 by omega), decide_eq_true b, if_true]; exact Ev.now _
  ·simp only [if_neg b, decide_eq_false b, Bool.false_eq_true, if_false, List.append_nil]; exact Ev.now _
theorem lost_of {N : List S37} {F : List S53} (h : P3 N F = []) : 0 ≤ first N 1 ∧ 0 ≤ first N 2 := by
 unfold P3 lost at h
 have := List.append_eq_nil_iff.1 h
 by_cases a : first N 1 < 0
 ·rw [decide_eq_true a, Bool.true_or, if_pos rfl] at this; exact absurd this.2 (by simp)
 by_cases b : first N 2 < 0
 ·rw [decide_eq_true b, Bool.or_true, if_pos rfl] at this; exact absurd this.2 (by simp)
 omega
theorem p4_f {N : List S37} {F : List S53} (h : Ok N F) (hW : Within N F) (h3 : P3 N F = []) : Ev (fun k => (net_Start.f k N F).bind fun t238 => ((net_met.f k N F t238 false).bind fun t239 => ((net_End.f k N F).bind fun t242 => ((net_met.f k N F t242 true).bind fun t243 => ((net_places.f k 4 (N.length : Int) (net_All_3.q t239 t243)).bind fun t248 => (some t248)))))) (P4 N F) := by
 have hn := h.n
 obtain ⟨hs, he⟩ := lost_of h3
 obtain ⟨s, hs1⟩ := Int.eq_ofNat_of_zero_le hs
 obtain ⟨e, he1⟩ := Int.eq_ofNat_of_zero_le he
 have hsl := first_lt hs
 have hel := first_lt he
 obtain ⟨t, ht1, ht2, ht3⟩ := met_f h.f (by omega) hW false (a := s) (by omega)
 obtain ⟨b, hb1, hb2, hb3⟩ := met_f h.f (by omega) hW true (a := e) (by omega)
 refine Ev.bind (start_f (by omega)) ?_
 rw [hs1]
 refine Ev.bind ht1 (Ev.bind (end_f (by omega)) ?_)
 rw [he1]
 refine Ev.bind hb1 ?_
 have hp : Ev (fun k => net_places.f k 4 (N.length : Int) (net_All_3.q t b)) (P4 N F) := by
  unfold P4
  refine places_f 4 (q := fun _ => net_All_3.q t b) (by omega) (fun i hi => ?_)
  unfold net_All_3.q
  simp only [if_pos (show (0 : Int) ≤ (i : Int) by omega), if_pos (show (i : Int) < (t.length : Int) by omega), if_pos (show (i : Int) < (b.length : Int) by omega), rdT]
  have e1 : (t.getD i false = true ↔ road F s i) := by have := ht3 i; unfold T at this; exact this
  have e2 : (b.getD i false = true ↔ road F i e) := by have := hb3 i; unfold T at this; rw [road_back] at this; exact this
  have hv := v4_iff F (first N 1) (first N 2) i
  rw [hs1, he1] at hv
  rw [show (((s : Nat) : Int)).toNat = s from rfl, show (((e : Nat) : Int)).toNat = e from rfl, show ((i : Nat) : Int).toNat = i from rfl, ← e1, ← e2] at hv
  rw [hs1, he1]
  cases h1 : t.getD i false with
  | true =>
   simp only [if_true]
   cases h2 : b.getD i false with
   | true =>
    rw [h1, h2] at hv
    rw [show v4 F (s : Int) (e : Int) (i : Int) = false by cases hh : v4 F (s : Int) (e : Int) (i : Int) <;> simp_all]
    exact Ev.now _
   | false =>
    rw [h1, h2] at hv
    rw [hv.2 (by simp)]
    exact Ev.now _
  | false =>
   simp only [Bool.false_eq_true, if_false]
   rw [h1] at hv
   rw [hv.2 (by simp)]
   exact Ev.now _
 exact Ev.bind hp (Ev.now _)
theorem all_f {N : List S37} {F : List S53} (h : Ok N F) : Ev (fun k => net_All.f k N F) (allV N F) := by
 unfold net_All.f allV
 have hn := h.n
 have jt : Ev (fun k => net_All.j0 k true N F) [(⟨1, 0⟩ : S47)] := by
  refine Ev.step (fun k => by rw [net_All.j0]) ?_
  simp only [if_true]
  exact Ev.now _
 by_cases a : (N.length : Int) > 24
 ·simp only [if_pos a, if_pos (show big N F from .inl (by omega))]; exact jt
 simp only [if_neg a]
 by_cases b : (F.length : Int) > 40
 ·simp only [decide_eq_true b, if_pos (show big N F from .inr (by omega))]; exact jt
 simp only [decide_eq_false b, if_neg (show ¬ big N F by unfold big; omega)]
 refine Ev.step (fun k => by rw [net_All.j0]) ?_
 simp only [Bool.false_eq_true, if_false]
 have h1 : Ev (fun k => net_places.f k 1 (N.length : Int) (net_All_1.q k N F)) (P1 N) := by
  refine places_f 1 (q := fun k => net_All_1.q k N F) (by omega) (fun i hi => ?_)
  unfold net_All_1.q
  simp only [if_pos (show (0 : Int) ≤ (i : Int) by omega), if_pos (show (i : Int) < (N.length : Int) by omega)]
  exact Ev.bind (right_f (h.tn _ (rd37_mem (by omega) (by omega)))) (Ev.now _)
 refine Ev.bind h1 ?_
 by_cases c1 : (P1 N).length > 0
 ·simp only [if_pos (show ((P1 N).length : Int) > 0 by omega), if_pos c1]; exact Ev.now _
 simp only [if_neg (show ¬ ((P1 N).length : Int) > 0 by omega), if_neg c1]
 have h2 : Ev (fun k => net_places.f k 2 (F.length : Int) (net_All_2.q k N F)) (P2 N F) := by
  refine places_f 2 (q := fun k => net_All_2.q k N F) (by have := h.f; omega) (fun i hi => ?_)
  unfold net_All_2.q
  simp only [if_pos (show (0 : Int) ≤ (i : Int) by omega), if_pos (show (i : Int) < (F.length : Int) by omega)]
  exact Ev.bind (leads_f h.f (h.tf _ (rd53_mem (by omega) (by omega)))) (Ev.now _)
 refine Ev.bind h2 ?_
 by_cases c2 : (P2 N F).length > 0
 ·simp only [if_pos (show ((P2 N F).length : Int) > 0 by omega), if_pos c2]; exact Ev.now _
 simp only [if_neg (show ¬ ((P2 N F).length : Int) > 0 by omega), if_neg c2]
 have hW := within_of (nil_of c2)
 refine Ev.bind (third_f h hW) ?_
 by_cases c3 : (P3 N F).length > 0
 ·simp only [if_pos (show ((P3 N F).length : Int) > 0 by omega), if_pos c3]; exact Ev.now _
 simp only [if_neg (show ¬ ((P3 N F).length : Int) > 0 by omega), if_neg c3]
 exact p4_f h hW (nil_of c3)
def hdV : List S47 → Int × Int
 | [] => (0, 0)
 | x :: _ => (x.f0, x.f1)
theorem check05_f {N : List S37} {F : List S53} (h : Ok N F) : Ev (fun k => net_Check.f k N F) (hdV (allV N F)) := by
 unfold net_Check.f
 refine Ev.bind (all_f h) ?_
 cases allV N F with
 | nil => simp only [List.length_nil, show ¬ (((0 : Nat) : Int) > 0) by decide, if_false]; exact Ev.now _
 | cons x l =>
  simp only [List.length_cons, if_pos (show (((l.length + 1 : Nat) : Int) > 0) by omega), if_pos (show (0 : Int) < ((l.length + 1 : Nat) : Int) by omega)]
  exact Ev.now _
theorem rl3 {N : List S37} {F : List S53} (h : Ok N F) (hW : Within N F) (h3 : P3 N F = []) (t : List Bool) (ht : t.length = N.length) (ht3 : ∀ i, T t i ↔ road F (first N 1).toNat i) : ∀ (d i : Nat), i + d = N.length →
  Ev (fun k => treenailref05_Check.l3 k (first N 2) t (N.length : Int) (i : Int) N F) (hdV (plcI 4 (v4 F (first N 1) (first N 2)) d i))
 | 0, i, hi => by
  refine Ev.step (fun k => by rw [treenailref05_Check.l3]) ?_
  simp only [if_neg (show ¬ (i : Int) < (N.length : Int) by omega), plcI, hdV]
  exact Ev.now _
 | d + 1, i, hi => by
  have hn := h.n
  obtain ⟨hs, he⟩ := lost_of h3
  have hel := first_lt he
  obtain ⟨e, he1⟩ := Int.eq_ofNat_of_zero_le he
  obtain ⟨b, hb1, hb2, hb3⟩ := reach_f h.f (by omega) hW (a := i) (by omega)
  refine Ev.step (fun k => by rw [treenailref05_Check.l3]) ?_
  simp only [if_pos (show (i : Int) < (N.length : Int) by omega)]
  refine Ev.bind hb1 ?_
  have ih := rl3 h hW h3 t ht ht3 d (i + 1) (by omega)
  have hv := v4_iff F (first N 1) (first N 2) i
  rw [show ((i : Nat) : Int).toNat = i from rfl] at hv
  have e1 : (t.getD i false = true ↔ road F (first N 1).toNat i) := by have := ht3 i; unfold T at this; exact this
  have e2 : (b.getD e false = true ↔ road F i e) := by have := hb3 e; unfold T at this; exact this
  rw [show (first N 2).toNat = e by omega, ← e1, ← e2] at hv
  simp only [if_pos (show (0 : Int) ≤ (i : Int) by omega), if_pos (show (i : Int) < (t.length : Int) by omega), rdT, if_pos he, if_pos (show first N 2 < (b.length : Int) by omega), wrapI (i := i) (by omega), plcI]
  rw [show rdOf false b (first N 2) = b.getD e false by rw [he1, rdT]]
  cases h1 : t.getD i false with
  | true =>
   simp only [if_true]
   cases h2 : b.getD e false with
   | true =>
    rw [h1, h2] at hv
    rw [show v4 F (first N 1) (first N 2) (i : Int) = false by cases hh : v4 F (first N 1) (first N 2) (i : Int) <;> simp_all]
    simp only [if_true, Bool.false_eq_true, if_false]
    exact ih
   | false =>
    rw [h1, h2] at hv
    rw [hv.2 (by simp)]
    simp only [if_true, Bool.false_eq_true, if_false, hdV]
    exact Ev.now _
  | false =>
   rw [h1] at hv
   rw [hv.2 (by simp)]
   simp only [if_true, Bool.false_eq_true, if_false, hdV]
   exact Ev.now _
theorem hd_append {l m : List S47} (h : l.length > 0) : hdV (l ++ m) = hdV l := by
 cases l with
 | nil => simp at h
 | cons x l => rfl
theorem rl2 {N : List S37} {F : List S53} (h : Ok N F) (hW : Within N F) (R : Int × Int)
  (hend : plcI 3 (v3 N F) N.length 0 = [] → Ev (fun k => treenailref05_Check.j4 k (first N 1) (first N 2) (lost N) N F) R) (hR : plcI 3 (v3 N F) N.length 0 ≠ [] → R = hdV (plcI 3 (v3 N F) N.length 0)) : ∀ (d i : Nat), i + d = N.length →
  plcI 3 (v3 N F) N.length 0 = plcI 3 (v3 N F) d i → Ev (fun k => treenailref05_Check.l2 k (first N 1) (first N 2) N (N.length : Int) (i : Int) N F) R
 | 0, i, hi, hp => by
  refine Ev.step (fun k => by rw [treenailref05_Check.l2]) ?_
  have := hend hp
  unfold lost at this
  simp only [if_neg (show ¬ (i : Int) < (N.length : Int) by omega)]
  by_cases a : first N 1 < 0
  ·rw [decide_eq_true a, Bool.true_or] at this
   simp only [if_pos a]; exact this
  ·rw [decide_eq_false a, Bool.false_or] at this
   simp only [if_neg a]; exact this
 | d + 1, i, hi, hp => by
  have hn := h.n
  refine Ev.step (fun k => by rw [treenailref05_Check.l2]) ?_
  simp only [if_pos (show (i : Int) < (N.length : Int) by omega), if_pos (show (0 : Int) ≤ (i : Int) by omega), wrapI (i := i) (by omega)]
  refine Ev.bind (three_f h.f hW (i := (i : Int)) (by omega) (by omega)) ?_
  rw [plcI] at hp
  have good : v3 N F i = false → Ev (fun k => treenailref05_Check.l2 k (first N 1) (first N 2) N (N.length : Int) ((i + 1 : Nat) : Int) N F) R := by
   intro hv
   rw [hv, if_neg (by decide)] at hp
   exact rl2 h hW R hend hR d (i + 1) (by omega) hp
  have bad : v3 N F i = true → R = (3, (i : Int)) := by
   intro hv
   rw [hv, if_pos rfl] at hp
   rw [hR (by rw [hp]; simp), hp]
   rfl
  have gt : ∀ c, (rd_T37 N i).f0 = c → ((i : Int) > first N c ↔ ((i : Int) != first N c) = true) := by
   intro c hc
   have := first_le (N := N) (c := c) (i := (i : Int)) (by omega) (by omega) hc
   rw [bne_iff_ne]
   omega
  unfold v3 at good bad
  cases hl : lnk N F i with
  | false =>
   rw [hl] at bad
   simp only [Bool.false_eq_true, if_false]
   rw [bad (by simp)]
   exact Ev.now _
  | true =>
   rw [hl] at good bad
   simp only [if_true]
   by_cases k1 : (rd_T37 N i).f0 = 1
   ·have := gt 1 k1
    simp only [if_pos k1, if_neg (show ¬ (rd_T37 N i).f0 = 2 by omega)]
    by_cases g : (i : Int) > first N 1
    ·simp only [if_pos g]
     rw [bad (by rw [this.1 g]; simp [k1])]
     exact Ev.now _
    ·simp only [if_neg g]
     have g2 : ((i : Int) != first N 1) = false := by cases hh : ((i : Int) != first N 1) <;> simp_all
     exact good (by rw [g2]; simp [k1])
   ·simp only [if_neg k1]
    by_cases k2 : (rd_T37 N i).f0 = 2
    ·have := gt 2 k2
     simp only [if_pos k2]
     by_cases g : (i : Int) > first N 2
     ·simp only [if_pos g]
      rw [bad (by rw [this.1 g]; simp [k2])]
      exact Ev.now _
     ·simp only [if_neg g]
      have g2 : ((i : Int) != first N 2) = false := by cases hh : ((i : Int) != first N 2) <;> simp_all
      exact good (by rw [g2]; simp [k2])
    ·simp only [if_neg k2]
     exact good (by simp [k1, k2])
theorem rl1 {N : List S37} {F : List S53} (h : Ok N F) (R : Int × Int) (hend : P2 N F = [] → Ev (fun k => treenailref05_Check.l2 k (first N 1) (first N 2) N (N.length : Int) 0 N F) R) (hR : P2 N F ≠ [] → R = hdV (P2 N F)) : ∀ (d i : Nat), i + d = F.length →
  P2 N F = plcI 2 (v2 N F) d i → Ev (fun k => treenailref05_Check.l1 k F (F.length : Int) (i : Int) N F) R
 | 0, i, hi, hp => by
  have hn := h.n
  refine Ev.step (fun k => by rw [treenailref05_Check.l1]) ?_
  simp only [if_neg (show ¬ (i : Int) < (F.length : Int) by omega)]
  exact Ev.bind (rfirst_f (by omega) 1) (Ev.bind (rfirst_f (by omega) 2) (hend hp))
 | d + 1, i, hi, hp => by
  have hf := h.f
  refine Ev.step (fun k => by rw [treenailref05_Check.l1]) ?_
  simp only [if_pos (show (i : Int) < (F.length : Int) by omega), if_pos (show (0 : Int) ≤ (i : Int) by omega), wrapI (i := i) (by omega)]
  refine Ev.bind (two_f h.f (h.tf _ (rd53_mem (j := (i : Int)) (by omega) (by omega)))) ?_
  rw [plcI] at hp
  cases hv : lds N F (rd_T53 F i) with
  | true =>
   rw [show v2 N F i = false by unfold v2; rw [hv]; rfl, if_neg (by decide)] at hp
   simp only [if_true]
   exact rl1 h R hend hR d (i + 1) (by omega) hp
  | false =>
   rw [show v2 N F i = true by unfold v2; rw [hv]; rfl, if_pos rfl] at hp
   simp only [Bool.false_eq_true, if_false]
   rw [hR (by rw [hp]; simp), hp]
   exact Ev.now _
theorem rl0 {N : List S37} {F : List S53} (h : Ok N F) (R : Int × Int) (hend : P1 N = [] → Ev (fun k => treenailref05_Check.l1 k F (F.length : Int) 0 N F) R) (hR : P1 N ≠ [] → R = hdV (P1 N)) : ∀ (d i : Nat), i + d = N.length →
  P1 N = plcI 1 (v1 N) d i → Ev (fun k => treenailref05_Check.l0 k N (N.length : Int) (i : Int) N F) R
 | 0, i, hi, hp => by
  refine Ev.step (fun k => by rw [treenailref05_Check.l0]) ?_
  simp only [if_neg (show ¬ (i : Int) < (N.length : Int) by omega)]
  exact hend hp
 | d + 1, i, hi, hp => by
  have hn := h.n
  refine Ev.step (fun k => by rw [treenailref05_Check.l0]) ?_
  simp only [if_pos (show (i : Int) < (N.length : Int) by omega), if_pos (show (0 : Int) ≤ (i : Int) by omega), wrapI (i := i) (by omega)]
  refine Ev.bind (one_f (h.tn _ (rd37_mem (j := (i : Int)) (by omega) (by omega)))) ?_
  rw [plcI] at hp
  cases hv : rgt (rd_T37 N i) with
  | true =>
   rw [show v1 N i = false by unfold v1; rw [hv]; rfl, if_neg (by decide)] at hp
   simp only [if_true]
   exact rl0 h R hend hR d (i + 1) (by omega) hp
  | false =>
   rw [show v1 N i = true by unfold v1; rw [hv]; rfl, if_pos rfl] at hp
   simp only [Bool.false_eq_true, if_false]
   rw [hR (by rw [hp]; simp), hp]
   exact Ev.now _
theorem rcheck05_f {N : List S37} {F : List S53} (h : Ok N F) : Ev (fun k => treenailref05_Check.f k N F) (hdV (allV N F)) := by
 unfold treenailref05_Check.f allV
 have hn := h.n
 have jt : Ev (fun k => treenailref05_Check.j0 k true N F) (1, 0) := by
  refine Ev.step (fun k => by rw [treenailref05_Check.j0]) ?_
  simp only [if_true]
  exact Ev.now _
 by_cases a : (N.length : Int) > 24
 ·simp only [if_pos a, if_pos (show big N F from .inl (by omega))]; exact jt
 simp only [if_neg a]
 by_cases b : (F.length : Int) > 40
 ·simp only [decide_eq_true b, if_pos (show big N F from .inr (by omega))]; exact jt
 simp only [decide_eq_false b, if_neg (show ¬ big N F by unfold big; omega)]
 refine Ev.step (fun k => by rw [treenailref05_Check.j0]) ?_
 simp only [Bool.false_eq_true, if_false]
 refine rl0 h _ (fun h1 => ?_) (fun h1 => ?_) N.length 0 (by omega) rfl
 rotate_left
 ·rw [if_pos (by cases hh : P1 N <;> simp_all)]
 rw [if_neg (by rw [h1]; simp)]
 refine rl1 h _ (fun h2 => ?_) (fun h2 => ?_) F.length 0 (by omega) rfl
 rotate_left
 ·rw [if_pos (by cases hh : P2 N F <;> simp_all)]
 rw [if_neg (by rw [h2]; simp)]
 have hW := within_of h2
 refine rl2 h hW _ (fun h3 => ?_) (fun h3 => ?_) N.length 0 (by omega) rfl
 rotate_left
 ·have hl : (plcI 3 (v3 N F) N.length 0).length > 0 := by cases hh : plcI 3 (v3 N F) N.length 0 <;> simp_all
  rw [if_pos (by unfold P3; rw [List.length_append]; omega)]
  unfold P3
  exact hd_append hl
 refine Ev.step (fun k => by rw [treenailref05_Check.j4]) ?_
 cases hlost : lost N with
 | true =>
  have e : P3 N F = [(⟨3, (N.length : Int)⟩ : S47)] := by unfold P3; rw [h3, hlost]; rfl
  simp only [if_true]
  rw [e]
  exact Ev.now _
 | false =>
  have e : P3 N F = [] := by unfold P3; rw [h3, hlost]; rfl
  simp only [Bool.false_eq_true, if_false]
  rw [if_neg (by rw [e]; simp)]
  obtain ⟨hs, he⟩ := lost_of e
  obtain ⟨s, hs1⟩ := Int.eq_ofNat_of_zero_le hs
  have hsl := first_lt hs
  obtain ⟨t, ht1, ht2, ht3⟩ := reach_f h.f (by omega) hW (a := s) (by omega)
  rw [← hs1] at ht1
  refine Ev.bind ht1 ?_
  exact rl3 h hW e t ht2 (fun i => by rw [ht3 i, hs1]; exact Iff.rfl) N.length 0 (by omega)
end Go.Proofs.YtdaeiicdpfghlaaDoor.NP
end
section
set_option linter.unusedVariables false
set_option linter.unusedSimpArgs false
namespace Go.Proofs.YtdaeiicdpfghlaaDoor.NP
open Go.RowKit Go.Proofs.YtdaeiicdpfghlaaDoor.R Go.Proofs.YtdaeiicdpfghlaaDoorW.PrintWords Go.Proofs.YtdaeiicdpfghlaaDoorW.PrintLast
set_option maxRecDepth 100000 in
theorem line_f : Ev (fun k => treenaillaw05_line.f k) true := Ev.of (fun k => treenaillaw05_line.mono k) (k := 100) (by kernel_rfl)
end Go.Proofs.YtdaeiicdpfghlaaDoor.NP
end
set_option linter.unusedVariables false
set_option linter.unusedSimpArgs false
namespace Go.Proofs.YtdaeiicdpfghlaaDoor.Pure
open Go.RowKit Go.Proofs.YtdaeiicdpfghlaaDoor.R Go.Proofs.YtdaeiicdpfghlaaDoorW.PrintWords Go.Proofs.YtdaeiicdpfghlaaDoorW.PrintLast Go.Proofs.YtdaeiicdpfghlaaDoor.NP
theorem NetChecks : ∀ (x0 : S25), ok_T25 x0 → ∃ k, treenaillaw05_NetChecks.f k x0.f0 x0.f1 = some true := by
 intro x0 _
 have h : Ev (fun k => treenaillaw05_NetChecks.f k x0.f0 x0.f1) true := by
  unfold treenaillaw05_NetChecks.f
  obtain ⟨b, hb, hok⟩ := large_f x0.f0 x0.f1
  refine Ev.bind hb ?_
  cases b with
  | true => simp only [if_true]; exact Ev.bind line_f (Ev.now _)
  | false =>
   simp only [Bool.false_eq_true, if_false]
   refine Ev.bind (check05_f (hok rfl)) (Ev.bind (rcheck05_f (hok rfl)) ?_)
   simp only [if_true]
   exact Ev.bind line_f (Ev.now _)
 exact h.rounds
end Go.Proofs.YtdaeiicdpfghlaaDoor.Pure
