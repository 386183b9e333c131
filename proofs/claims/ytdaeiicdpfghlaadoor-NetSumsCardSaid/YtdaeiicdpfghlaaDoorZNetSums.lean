/- In a right process each flow is one node's out and one's in, and each node has as many as its kind asks: the pure statement. -/
import Derived.Test.YtdaeiicdpfghlaaDoorV0
import Derived.Test.YtdaeiicdpfghlaaDoorSx0
import Derived.Test.YtdaeiicdpfghlaaDoorSx1
import Derived.Test.YtdaeiicdpfghlaaDoorSx2
import Derived.Test.YtdaeiicdpfghlaaDoorSx3
import Derived.Test.YtdaeiicdpfghlaaDoorSx4
import Derived.Test.YtdaeiicdpfghlaaDoorSx5
import Derived.Test.YtdaeiicdpfghlaaDoorSx6
import Derived.Test.YtdaeiicdpfghlaaDoorSx7
import Derived.Test.YtdaeiicdpfghlaaDoorSx8
import Derived.Test.YtdaeiicdpfghlaaDoorSx9
import Derived.Test.YtdaeiicdpfghlaaDoorSx10
import Derived.Test.YtdaeiicdpfghlaaDoorSx11
import Derived.Test.YtdaeiicdpfghlaaDoorSx22
import Derived.Test.YtdaeiicdpfghlaaDoorSRk
set_option linter.unusedVariables false
set_option linter.unusedSimpArgs false
section
set_option linter.unusedVariables false
set_option linter.unusedSimpArgs false
namespace Go.Proofs.YtdaeiicdpfghlaaDoor.NP
open Go.RowKit Go.Proofs.YtdaeiicdpfghlaaDoor.R Go.Proofs.YtdaeiicdpfghlaaDoorW.PrintWords Go.Proofs.YtdaeiicdpfghlaaDoorW.PrintLast
theorem wrapS {x : Int} (h0 : -9223372036854775808 ≤ x) (h1 : x ≤ 9223372036854775807) : wrap64 x = x := by unfold wrap64; omega
theorem wrapI {i : Nat} (h : i ≤ 1000000000) : wrap64 ((i : Int) + 1) = ((i + 1 : Nat) : Int) := by rw [wrapS (by omega) (by omega)]; omega
theorem rd35 {l : List S35} {i : Nat} (h : i < l.length) : rd_T35 l (i : Int) = l[i] := by
 unfold rd_T35
 rw [show (i : Int).toNat = i from rfl, List.getD_eq_getElem?_getD, List.getElem?_eq_getElem h]
 rfl
theorem rd37 {l : List S37} {i : Nat} (h : i < l.length) : rd_T37 l (i : Int) = l[i] := by
 unfold rd_T37
 rw [show (i : Int).toNat = i from rfl, List.getD_eq_getElem?_getD, List.getElem?_eq_getElem h]
 rfl
theorem rd53 {l : List S53} {i : Nat} (h : i < l.length) : rd_T53 l (i : Int) = l[i] := by
 unfold rd_T53
 rw [show (i : Int).toNat = i from rfl, List.getD_eq_getElem?_getD, List.getElem?_eq_getElem h]
 rfl
theorem drop_at {α : Type} {l : List α} {i : Nat} (h : i < l.length) : l.drop i = l[i] :: l.drop (i + 1) := List.drop_eq_getElem_cons h
theorem drop_end {α : Type} {l : List α} {i : Nat} (h : l.length ≤ i) : l.drop i = [] := List.drop_eq_nil_of_le h
theorem ev_all {α β : Type} {q : Nat → α → Option β} {v : α → β} : ∀ (l : List α), (∀ x ∈ l, Ev (fun k => q k x) (v x)) → ∃ K, ∀ k, K ≤ k → ∀ x ∈ l, q k x = some (v x)
 | [], _ => ⟨0, by simp⟩
 | a :: l, h => by
  obtain ⟨K1, h1⟩ := h a (by simp)
  obtain ⟨K2, h2⟩ := ev_all l (fun x hx => h x (by simp [hx]))
  refine ⟨K1 + K2, fun k hk x hx => ?_⟩
  rcases List.mem_cons.1 hx with rfl | hx
  ·exact h1 k (by omega)
  ·exact h2 k (by omega) x hx
def fstI {α : Type} (v : α → Bool) : List α → Int → Int
 | [], _ => -1
 | x :: l, i => if v x = true then i else fstI v l (i + 1)
theorem fstI_nonneg {α : Type} (v : α → Bool) : ∀ (l : List α) (i : Int), 0 ≤ i → (0 ≤ fstI v l i ↔ l.any v = true)
 | [], i, _ => by simp [fstI]
 | x :: l, i, hi => by
  rw [fstI]
  by_cases h : v x = true
  ·rw [if_pos h]; simp [h, hi]
  ·rw [if_neg h, fstI_nonneg v l (i + 1) (by omega)]; simp [h]
theorem q70 (q : S35 → Option Bool) (x : S35) : QF70.f x.f0 x.f1 x.f2 q = q x := by cases x; rfl
theorem q58 (q : S37 → Option Bool) (x : S37) : QF58.f x.f0 x.f1 x.f2.f0 x.f2.f1 x.f2.f2 q = q x := by obtain ⟨a, b, c⟩ := x; cases c; rfl
theorem ixT_l0 (l : List S35) (q : S35 → Option Bool) (v : S35 → Bool) (hq : ∀ x ∈ l, q x = some (v x)) (hl : l.length ≤ 1000000) : ∀ (d i m : Nat), i + d = l.length → d < m → slices_IndexFunc_api_Term.l0 m l q (l.length : Int) (i : Int) = some (fstI v (l.drop i) i)
 | d, i, 0, _, h => absurd h (by omega)
 | 0, i, m + 1, hi, _ => by
  rw [slices_IndexFunc_api_Term.l0, if_neg (by omega), drop_end (by omega)]; rfl
 | d + 1, i, m + 1, hi, hm => by
  have hlt : i < l.length := by omega
  rw [slices_IndexFunc_api_Term.l0, if_pos (by omega), if_pos (by omega), if_pos (by omega), rd35 hlt, drop_at hlt]
  rw [q70 q l[i], hq _ (List.getElem_mem hlt), Option.bind_some, wrapS (by omega) (by omega), show ((i : Int) + 1) = ((i + 1 : Nat) : Int) by omega, ixT_l0 l q v hq hl d (i + 1) m (by omega) (by omega)]
  rw [fstI]
  cases v l[i] <;> simp
theorem cfT {q : Nat → S35 → Option Bool} {v : S35 → Bool} {l : List S35} (hl : l.length ≤ 1000000) (h : ∀ x ∈ l, Ev (fun k => q k x) (v x)) : Ev (fun k => slices_ContainsFunc_api_Term.f k l (q k)) (l.any v) := by
 obtain ⟨K, hK⟩ := ev_all l h
 refine ⟨K + l.length + 1, fun k hk => ?_⟩
 unfold slices_ContainsFunc_api_Term.f slices_IndexFunc_api_Term.f
 have := ixT_l0 l (q k) v (hK k (by omega)) hl l.length 0 k (by omega) (by omega)
 rw [show ((0 : Nat) : Int) = 0 from rfl] at this
 show (slices_IndexFunc_api_Term.l0 k l (q k) (l.length : Int) 0).bind _ = _
 rw [this, Option.bind_some, List.drop_zero]
 congr 1
 have h0 := fstI_nonneg v l 0 (by omega)
 rw [Bool.eq_iff_iff, decide_eq_true_iff]
 exact h0
theorem ixN_l0 (l : List S37) (q : S37 → Option Bool) (v : S37 → Bool) (hq : ∀ x ∈ l, q x = some (v x)) (hl : l.length ≤ 1000000) : ∀ (d i m : Nat), i + d = l.length → d < m → slices_IndexFunc_api_Node.l0 m l q (l.length : Int) (i : Int) = some (fstI v (l.drop i) i)
 | d, i, 0, _, h => absurd h (by omega)
 | 0, i, m + 1, hi, _ => by
  rw [slices_IndexFunc_api_Node.l0, if_neg (by omega), drop_end (by omega)]; rfl
 | d + 1, i, m + 1, hi, hm => by
  have hlt : i < l.length := by omega
  rw [slices_IndexFunc_api_Node.l0, if_pos (by omega), if_pos (by omega), if_pos (by omega), rd37 hlt, drop_at hlt]
  rw [q58 q l[i], hq _ (List.getElem_mem hlt), Option.bind_some, wrapS (by omega) (by omega), show ((i : Int) + 1) = ((i + 1 : Nat) : Int) by omega, ixN_l0 l q v hq hl d (i + 1) m (by omega) (by omega)]
  rw [fstI]
  cases v l[i] <;> simp
theorem ixN {l : List S37} {v : S37 → Bool} (hl : l.length ≤ 1000000) : Ev (fun k => slices_IndexFunc_api_Node.f k l (fun x => some (v x))) (fstI v l 0) := by
 refine ⟨l.length + 1, fun k hk => ?_⟩
 unfold slices_IndexFunc_api_Node.f
 have := ixN_l0 l (fun x => some (v x)) v (fun _ _ => rfl) hl l.length 0 k (by omega) (by omega)
 rw [show ((0 : Nat) : Int) = 0 from rfl] at this
 show slices_IndexFunc_api_Node.l0 k l _ (l.length : Int) 0 = _
 rw [this, List.drop_zero]
def sm : Nat → S35 → Prop
 | 0, _ => False
 | d + 1, t => t.f2.length ≤ 50 ∧ ∀ x ∈ t.f2, sm d x
def dep : Nat → S35 → Int
 | 0, _ => 0
 | d + 1, t => t.f2.foldl (fun m x => if dep d x > m then dep d x else m) 0 + 1
theorem dep_succ (d : Nat) (t : S35) : dep (d + 1) t = t.f2.foldl (fun m x => if dep d x > m then dep d x else m) 0 + 1 := by rw [dep]
theorem fold_ge {f : S35 → Int} : ∀ (l : List S35) (m : Int), m ≤ l.foldl (fun m x => if f x > m then f x else m) m
 | [], m => Int.le_refl m
 | a :: l, m => by
  refine Int.le_trans ?_ (fold_ge l _)
  show m ≤ if f a > m then f a else m
  split <;> omega
theorem fold_gt {f : S35 → Int} (c : Int) : ∀ (l : List S35) (m : Int), (c < l.foldl (fun m x => if f x > m then f x else m) m ↔ c < m ∨ ∃ x ∈ l, c < f x)
 | [], m => by simp
 | a :: l, m => by
  rw [List.foldl_cons, fold_gt c l]
  simp only [List.mem_cons, exists_eq_or_imp]
  by_cases h : f a > m
  ·rw [if_pos h]
   constructor
   ·rintro (h1 | h1)
    ·exact .inr (.inl h1)
    ·exact .inr (.inr h1)
   ·rintro (h1 | h1 | h1)
    ·exact .inl (by omega)
    ·exact .inl h1
    ·exact .inr h1
  ·rw [if_neg h]
   constructor
   ·rintro (h1 | h1)
    ·exact .inl h1
    ·exact .inr (.inr h1)
   ·rintro (h1 | h1 | h1)
    ·exact .inl h1
    ·exact .inl (by omega)
    ·exact .inr h1
theorem dep_pos (d : Nat) (t : S35) (h : sm d t) : 1 ≤ dep d t := by
 cases d with
 | zero => exact h.elim
 | succ d => unfold dep; have := fold_ge (f := dep d) t.f2 0; omega
theorem deep_f : ∀ (d : Nat) (t : S35) (a : Int), sm d t → 0 ≤ a → a ≤ 25 → Ev (fun k => term_deep.f k t.f0 t.f1 t.f2 a) (decide (24 < a + dep d t - 1))
 | 0, t, a, h, _, _ => h.elim
 | d + 1, t, a, h, h0, h1 => by
  refine Ev.step (fun k => by rw [term_deep.f]) ?_
  by_cases hc : a > 24
  ·have hd := dep_pos (d + 1) t h
   simp only [if_pos hc]
   rw [decide_eq_true (by omega)]
   exact Ev.now _
  ·simp only [if_neg hc, wrapS (x := a + 1) (by omega) (by omega)]
   have hk : Ev (fun k => slices_ContainsFunc_api_Term.f k t.f2 (fun x => term_deep.f k x.f0 x.f1 x.f2 (a + 1))) (t.f2.any fun x => decide (24 < (a + 1) + dep d x - 1)) := cfT (q := fun k x => term_deep.f k x.f0 x.f1 x.f2 (a + 1)) (by have := h.1; omega) (fun x hx => deep_f d x (a + 1) (h.2 x hx) (by omega) (by omega))
   have e : (t.f2.any fun x => decide (24 < (a + 1) + dep d x - 1)) = decide (24 < a + dep (d + 1) t - 1) := by
    rw [Bool.eq_iff_iff, decide_eq_true_iff, List.any_eq_true]
    have hg := fold_gt (f := dep d) (24 - a) t.f2 0
    rw [dep_succ]
    constructor
    ·rintro ⟨x, hx, h2⟩
     have := hg.2 (.inr ⟨x, hx, by have := of_decide_eq_true h2; omega⟩)
     omega
    ·intro h2
     rcases hg.1 (by omega) with h3 | ⟨x, hx, h3⟩
     ·omega
     ·exact ⟨x, hx, decide_eq_true (by omega)⟩
   rw [e] at hk
   exact hk
def shp : Nat → S35 → Bool
 | 0, _ => false
 | d + 1, t =>
  if t.f0 = 1 then (decide (((t.f2.length : Nat) : Int) = 0) && decide (0 ≤ t.f1)) && decide (t.f1 ≤ 1099511627776)
  else if t.f0 = 2 then (decide (((t.f2.length : Nat) : Int) = 0) && decide (0 ≤ t.f1)) && decide (t.f1 < 4)
  else if t.f0 < 3 then false
  else if 14 < t.f0 then false
  else if t.f1 = 0 then (if ((t.f2.length : Nat) : Int) = Words.kids t.f0.toNat then t.f2.all (shp d) else false)
  else false
theorem any_not {α : Type} (v : α → Bool) : ∀ l : List α, (!(l.any fun x => !(v x))) = l.all v
 | [] => rfl
 | a :: l => by rw [List.any_cons, List.all_cons, ← any_not v l]; cases v a <;> simp
theorem shaped_f : ∀ (d : Nat) (t : S35), sm d t → Ev (fun k => term_shaped.f k t.f0 t.f1 t.f2) (shp d t)
 | 0, t, h => h.elim
 | d + 1, t, h => by
  refine Ev.step (fun k => by rw [term_shaped.f]) ?_
  unfold shp
  by_cases h1 : t.f0 = 1
  ·simp only [if_pos h1]; exact Ev.now _
  simp only [if_neg h1]
  by_cases h2 : t.f0 = 2
  ·simp only [if_pos h2]; exact Ev.now _
  simp only [if_neg h2]
  by_cases h3 : t.f0 < 3
  ·simp only [if_pos h3]; exact Ev.now _
  simp only [if_neg h3]
  by_cases h4 : 14 < t.f0
  ·simp only [if_pos h4]; exact Ev.now _
  simp only [if_neg h4]
  by_cases h5 : t.f1 = 0
  ·simp only [if_pos h5]
   by_cases h6 : ((t.f2.length : Nat) : Int) = Words.kids t.f0.toNat
   ·simp only [if_pos h6]
    refine Ev.bind (cfT (q := fun k x => (term_shaped.f k x.f0 x.f1 x.f2).bind fun b => some (!b)) (v := fun x => !(shp d x)) (by have := h.1; omega) (fun x hx => ?_)) ?_
    ·exact Ev.bind (shaped_f d x (h.2 x hx)) (Ev.now _)
    ·rw [any_not]; exact Ev.now _
   ·simp only [if_neg h6]; exact Ev.now _
  ·simp only [if_neg h5]; exact Ev.now _
def typ : Nat → S35 → Int
 | 0, _ => 0
 | d + 1, t =>
  if t.f0 = 1 then 1 else if t.f0 = 2 then 1
  else if (t.f2.any fun x => typ d x != Words.of t.f0.toNat) = true then 0 else Words.out t.f0.toNat
theorem shp_op {d : Nat} {t : S35} (h : shp d t = true) : 1 ≤ t.f0 ∧ t.f0 ≤ 14 := by
 cases d with
 | zero => simp [shp] at h
 | succ d =>
  unfold shp at h
  by_cases h1 : t.f0 = 1
  ·omega
  rw [if_neg h1] at h
  by_cases h2 : t.f0 = 2
  ·omega
  rw [if_neg h2] at h
  by_cases h3 : t.f0 < 3
  ·rw [if_pos h3] at h; cases h
  rw [if_neg h3] at h
  by_cases h4 : 14 < t.f0
  ·rw [if_pos h4] at h; cases h
  omega
theorem shp_kids {d : Nat} {t : S35} (h : shp (d + 1) t = true) : ∀ x ∈ t.f2, shp d x = true := by
 unfold shp at h
 have nil : ((t.f2.length : Nat) : Int) = 0 → ∀ x ∈ t.f2, shp d x = true := by
  intro h0 x hx
  have : t.f2 = [] := List.eq_nil_of_length_eq_zero (by omega)
  rw [this] at hx; simp at hx
 by_cases h1 : t.f0 = 1
 ·rw [if_pos h1] at h; simp only [Bool.and_eq_true, decide_eq_true_eq] at h; exact nil h.1.1
 rw [if_neg h1] at h
 by_cases h2 : t.f0 = 2
 ·rw [if_pos h2] at h; simp only [Bool.and_eq_true, decide_eq_true_eq] at h; exact nil h.1.1
 rw [if_neg h2] at h
 by_cases h3 : t.f0 < 3
 ·rw [if_pos h3] at h; cases h
 rw [if_neg h3] at h
 by_cases h4 : 14 < t.f0
 ·rw [if_pos h4] at h; cases h
 rw [if_neg h4] at h
 by_cases h5 : t.f1 = 0
 ·rw [if_pos h5] at h
  by_cases h6 : ((t.f2.length : Nat) : Int) = Words.kids t.f0.toNat
  ·rw [if_pos h6, List.all_eq_true] at h; exact h
  ·rw [if_neg h6] at h; cases h
 ·rw [if_neg h5] at h; cases h
theorem typed_f : ∀ (d : Nat) (t : S35), sm d t → shp d t = true → Ev (fun k => term_typed.f k t.f0 t.f1 t.f2) (typ d t)
 | 0, t, h, _ => h.elim
 | d + 1, t, h, hs => by
  refine Ev.step (fun k => by rw [term_typed.f]) ?_
  have ho := shp_op hs
  unfold typ
  by_cases h1 : t.f0 = 1
  ·simp only [if_pos h1]; exact Ev.now _
  simp only [if_neg h1]
  by_cases h2 : t.f0 = 2
  ·simp only [if_pos h2]; exact Ev.now _
  simp only [if_neg h2, if_pos (show 0 ≤ t.f0 by omega), if_pos (show t.f0 < 15 by omega)]
  refine Ev.bind (cfT (q := fun k x => (term_typed.f k x.f0 x.f1 x.f2).bind fun n => some (n != Words.of t.f0.toNat)) (v := fun x => typ d x != Words.of t.f0.toNat) (by have := h.1; omega) (fun x hx => ?_)) ?_
  ·exact Ev.bind (typed_f d x (h.2 x hx) (shp_kids hs x hx)) (Ev.now _)
  ·exact Ev.now _
def chk (d : Nat) (t : S35) : Int × Int := if dep d t > 24 then (0, 2) else if shp d t = true then (if typ d t = 0 then (0, 30) else (typ d t, 0)) else (0, 4)
theorem check_f {d : Nat} {t : S35} (h : sm d t) : Ev (fun k => term_Check.f k t.f0 t.f1 t.f2) (chk d t) := by
 unfold term_Check.f term_wrong.f chk
 have hd := deep_f d t 1 h (by omega) (by omega)
 rw [show decide (24 < 1 + dep d t - 1) = decide (dep d t > 24) by congr 1; apply propext; omega] at hd
 by_cases h1 : dep d t > 24
 ·rw [decide_eq_true h1] at hd
  rw [if_pos h1]
  refine Ev.bind (a := 2) (Ev.bind hd ?_) ?_
  ·simp only [if_true]; exact Ev.now _
  ·simp only [show ¬ ((2 : Int) = 0) by decide, if_false]; exact Ev.now _
 ·rw [decide_eq_false h1] at hd
  rw [if_neg h1]
  cases h2 : shp d t with
  | false =>
   refine Ev.bind (a := 4) (Ev.bind hd ?_) ?_
   ·simp only [Bool.false_eq_true, if_false]
    have := shaped_f d t h
    rw [h2] at this
    refine Ev.bind this ?_
    simp only [Bool.false_eq_true, if_false]; exact Ev.now _
   ·simp only [show ¬ ((4 : Int) = 0) by decide, if_false, Bool.false_eq_true]; exact Ev.now _
  | true =>
   refine Ev.bind (a := 0) (Ev.bind hd ?_) ?_
   ·simp only [Bool.false_eq_true, if_false]
    have := shaped_f d t h
    rw [h2] at this
    refine Ev.bind this ?_
    simp only [if_true]; exact Ev.now _
   ·simp only [if_true]
    refine Ev.bind (typed_f d t h h2) ?_
    by_cases h3 : typ d t = 0
    ·simp only [if_pos h3]; exact Ev.now _
    ·simp only [if_neg h3]; exact Ev.now _
end Go.Proofs.YtdaeiicdpfghlaaDoor.NP
end
section
set_option linter.unusedVariables false
set_option linter.unusedSimpArgs false
namespace Go.Proofs.YtdaeiicdpfghlaaDoor.NP
open Go.RowKit Go.Proofs.YtdaeiicdpfghlaaDoor.R Go.Proofs.YtdaeiicdpfghlaaDoorW.PrintWords Go.Proofs.YtdaeiicdpfghlaaDoorW.PrintLast
theorem ldeep_l0 {d : Nat} {a : Int} (ha : 0 ≤ a) (hb : a ≤ 60) (l : List S35) (hl : l.length ≤ 50)
  (ih : ∀ (t : S35) (s : Int), 0 ≤ s → s ≤ 3000 → ∃ b s', Ev (fun k => treenaillaw05_deep.f k t.f0 t.f1 t.f2 s (a + 1)) (b, s') ∧ (b = false → 0 ≤ s' ∧ s' ≤ 3000 ∧ sm d t)) :
  ∀ (n i : Nat) (s : Int), i + n = l.length → 0 ≤ s → s ≤ 3000 → ∃ b s', Ev (fun k => treenaillaw05_deep.l0 k a l (l.length : Int) (i : Int) s) (b, s') ∧ (b = false → 0 ≤ s' ∧ s' ≤ 3000 ∧ ∀ x ∈ l.drop i, sm d x)
 | 0, i, s, hi, h0, h1 => by
  refine ⟨false, s, Ev.step (fun k => by rw [treenaillaw05_deep.l0]) ?_, fun _ => ⟨h0, h1, by rw [drop_end (by omega)]; simp⟩⟩
  simp only [if_neg (show ¬ (i : Int) < (l.length : Int) by omega)]
  exact Ev.now _
 | n + 1, i, s, hi, h0, h1 => by
  have hlt : i < l.length := by omega
  obtain ⟨b, s', he, hs⟩ := ih l[i] s h0 h1
  cases b with
  | true =>
   refine ⟨true, s', Ev.step (fun k => by rw [treenaillaw05_deep.l0]) ?_, fun h => absurd h (by decide)⟩
   simp only [if_pos (show (i : Int) < (l.length : Int) by omega), if_pos (show (0 : Int) ≤ (i : Int) by omega), rd35 hlt, wrapS (x := a + 1) (by omega) (by omega)]
   refine Ev.bind he ?_
   simp only [if_true]
   exact Ev.now _
  | false =>
   obtain ⟨g0, g1, g2⟩ := hs rfl
   obtain ⟨b, s2, he2, hs2⟩ := ldeep_l0 ha hb l hl ih n (i + 1) s' (by omega) g0 g1
   refine ⟨b, s2, Ev.step (fun k => by rw [treenaillaw05_deep.l0]) ?_, fun h => ?_⟩
   ·simp only [if_pos (show (i : Int) < (l.length : Int) by omega), if_pos (show (0 : Int) ≤ (i : Int) by omega), rd35 hlt, wrapS (x := a + 1) (by omega) (by omega), wrapI (i := i) (by omega)]
    refine Ev.bind he ?_
    simp only [Bool.false_eq_true, if_false]
    exact he2
   ·obtain ⟨q0, q1, q2⟩ := hs2 h
    refine ⟨q0, q1, ?_⟩
    rw [drop_at hlt]
    intro x hx
    rcases List.mem_cons.1 hx with rfl | hx
    ·exact g2
    ·exact q2 x hx
theorem ldeep_f : ∀ (d : Nat) (a : Int), 0 ≤ a → a + d = 61 → ∀ (t : S35) (s : Int), 0 ≤ s → s ≤ 3000 → ∃ b s', Ev (fun k => treenaillaw05_deep.f k t.f0 t.f1 t.f2 s a) (b, s') ∧ (b = false → 0 ≤ s' ∧ s' ≤ 3000 ∧ sm d t) := by
 intro d
 induction d with
 | zero =>
  intro a ha hd t s h0 h1
  refine ⟨true, s - 1, Ev.step (fun k => by rw [treenaillaw05_deep.f]) ?_, fun h => absurd h (by decide)⟩
  simp only [wrapS (x := s - 1) (by omega) (by omega), if_pos (show a > 60 by omega)]
  have : Ev (fun k => treenaillaw05_deep.j0 k a true (s - 1) t.f0 t.f1 t.f2) (true, s - 1) := by
   refine Ev.step (fun k => by rw [treenaillaw05_deep.j0]) ?_
   simp only [if_true]
   exact Ev.now _
  by_cases h : s - 1 < 0
  ·simp only [if_pos h]; exact this
  ·simp only [if_neg h]; exact this
 | succ d ih =>
  intro a ha hd t s h0 h1
  have jt : Ev (fun k => treenaillaw05_deep.j0 k a true (s - 1) t.f0 t.f1 t.f2) (true, s - 1) := by
   refine Ev.step (fun k => by rw [treenaillaw05_deep.j0]) ?_
   simp only [if_true]
   exact Ev.now _
  by_cases h : s - 1 < 0
  ·refine ⟨true, s - 1, Ev.step (fun k => by rw [treenaillaw05_deep.f]) ?_, fun h => absurd h (by decide)⟩
   simp only [wrapS (x := s - 1) (by omega) (by omega), if_pos h]
   exact jt
  by_cases hl : (t.f2.length : Int) > 50
  ·refine ⟨true, s - 1, Ev.step (fun k => by rw [treenaillaw05_deep.f]) ?_, fun h => absurd h (by decide)⟩
   simp only [wrapS (x := s - 1) (by omega) (by omega), if_neg h, if_neg (show ¬ a > 60 by omega), decide_eq_true hl]
   exact jt
  obtain ⟨b, s', he, hs⟩ := ldeep_l0 (d := d) ha (by omega) t.f2 (by omega) (fun t s h0 h1 => ih (a + 1) (by omega) (by omega) t s h0 h1) t.f2.length 0 (s - 1) (by omega) (by omega) (by omega)
  refine ⟨b, s', Ev.step (fun k => by rw [treenaillaw05_deep.f]) ?_, fun hb => ?_⟩
  ·simp only [wrapS (x := s - 1) (by omega) (by omega), if_neg h, if_neg (show ¬ a > 60 by omega), decide_eq_false hl]
   refine Ev.step (fun k => by rw [treenaillaw05_deep.j0]) ?_
   simp only [Bool.false_eq_true, if_false]
   exact he
  ·obtain ⟨q0, q1, q2⟩ := hs hb
   rw [List.drop_zero] at q2
   exact ⟨q0, q1, by omega, q2⟩
structure Ok (N : List S37) (F : List S53) : Prop where
 n : N.length ≤ 60
 f : F.length ≤ 100
 tn : ∀ x ∈ N, sm 60 x.f2
 tf : ∀ x ∈ F, sm 60 x.f3
theorem large_l1 (F : List S53) (hf : F.length ≤ 100) : ∀ (n i : Nat) (s : Int), i + n = F.length → 0 ≤ s → s ≤ 3000 → ∃ b, Ev (fun k => treenaillaw05_large.l1 k F (F.length : Int) (i : Int) s) b ∧ (b = false → ∀ x ∈ F.drop i, sm 60 x.f3)
 | 0, i, s, hi, h0, h1 => by
  refine ⟨false, Ev.step (fun k => by rw [treenaillaw05_large.l1]) ?_, fun _ => by rw [drop_end (by omega)]; simp⟩
  simp only [if_neg (show ¬ (i : Int) < (F.length : Int) by omega)]
  exact Ev.now _
 | n + 1, i, s, hi, h0, h1 => by
  have hlt : i < F.length := by omega
  obtain ⟨b, s', he, hs⟩ := ldeep_f 60 1 (by omega) (by omega) F[i].f3 s h0 h1
  cases b with
  | true =>
   refine ⟨true, Ev.step (fun k => by rw [treenaillaw05_large.l1]) ?_, fun h => absurd h (by decide)⟩
   simp only [if_pos (show (i : Int) < (F.length : Int) by omega), if_pos (show (0 : Int) ≤ (i : Int) by omega), rd53 hlt]
   refine Ev.bind he ?_
   simp only [if_true]
   exact Ev.now _
  | false =>
   obtain ⟨g0, g1, g2⟩ := hs rfl
   obtain ⟨b, he2, hs2⟩ := large_l1 F hf n (i + 1) s' (by omega) g0 g1
   refine ⟨b, Ev.step (fun k => by rw [treenaillaw05_large.l1]) ?_, fun h => ?_⟩
   ·simp only [if_pos (show (i : Int) < (F.length : Int) by omega), if_pos (show (0 : Int) ≤ (i : Int) by omega), rd53 hlt, wrapI (i := i) (by omega)]
    refine Ev.bind he ?_
    simp only [Bool.false_eq_true, if_false]
    exact he2
   ·rw [drop_at hlt]
    intro x hx
    rcases List.mem_cons.1 hx with rfl | hx
    ·exact g2
    ·exact hs2 h x hx
theorem large_l0 (N : List S37) (F : List S53) (hn : N.length ≤ 60) (hf : F.length ≤ 100) : ∀ (n i : Nat) (s : Int), i + n = N.length → 0 ≤ s → s ≤ 3000 → ∃ b, Ev (fun k => treenaillaw05_large.l0 k N (N.length : Int) (i : Int) N F s) b ∧ (b = false → (∀ x ∈ N.drop i, sm 60 x.f2) ∧ ∀ x ∈ F, sm 60 x.f3)
 | 0, i, s, hi, h0, h1 => by
  obtain ⟨b, he, hb⟩ := large_l1 F hf F.length 0 s (by omega) h0 h1
  refine ⟨b, Ev.step (fun k => by rw [treenaillaw05_large.l0]) ?_, fun h => ⟨by rw [drop_end (by omega)]; simp, by simpa using hb h⟩⟩
  simp only [if_neg (show ¬ (i : Int) < (N.length : Int) by omega)]
  exact he
 | n + 1, i, s, hi, h0, h1 => by
  have hlt : i < N.length := by omega
  obtain ⟨b, s', he, hs⟩ := ldeep_f 60 1 (by omega) (by omega) N[i].f2 s h0 h1
  cases b with
  | true =>
   refine ⟨true, Ev.step (fun k => by rw [treenaillaw05_large.l0]) ?_, fun h => absurd h (by decide)⟩
   simp only [if_pos (show (i : Int) < (N.length : Int) by omega), if_pos (show (0 : Int) ≤ (i : Int) by omega), rd37 hlt]
   refine Ev.bind he ?_
   simp only [if_true]
   exact Ev.now _
  | false =>
   obtain ⟨g0, g1, g2⟩ := hs rfl
   obtain ⟨b, he2, hs2⟩ := large_l0 N F hn hf n (i + 1) s' (by omega) g0 g1
   refine ⟨b, Ev.step (fun k => by rw [treenaillaw05_large.l0]) ?_, fun h => ⟨?_, (hs2 h).2⟩⟩
   ·simp only [if_pos (show (i : Int) < (N.length : Int) by omega), if_pos (show (0 : Int) ≤ (i : Int) by omega), rd37 hlt, wrapI (i := i) (by omega)]
    refine Ev.bind he ?_
    simp only [Bool.false_eq_true, if_false]
    exact he2
   ·rw [drop_at hlt]
    intro x hx
    rcases List.mem_cons.1 hx with rfl | hx
    ·exact g2
    ·exact (hs2 h).1 x hx
theorem large_f (N : List S37) (F : List S53) : ∃ b, Ev (fun k => treenaillaw05_large.f k N F) b ∧ (b = false → Ok N F) := by
 have jt : Ev (fun k => treenaillaw05_large.j0 k true N F) true := by
  refine Ev.step (fun k => by rw [treenaillaw05_large.j0]) ?_
  simp only [if_true]
  exact Ev.now _
 unfold treenaillaw05_large.f
 by_cases hn : (N.length : Int) > 60
 ·simp only [if_pos hn]
  exact ⟨true, jt, fun h => absurd h (by decide)⟩
 simp only [if_neg hn]
 by_cases hf : (F.length : Int) > 100
 ·simp only [decide_eq_true hf]
  exact ⟨true, jt, fun h => absurd h (by decide)⟩
 simp only [decide_eq_false hf]
 obtain ⟨b, he, hb⟩ := large_l0 N F (by omega) (by omega) N.length 0 3000 (by omega) (by omega) (by omega)
 refine ⟨b, Ev.step (fun k => by rw [treenaillaw05_large.j0]) ?_, fun h => ?_⟩
 ·simp only [Bool.false_eq_true, if_false]; exact he
 ·have := hb h
  rw [List.drop_zero] at this
  exact ⟨by omega, by omega, this.1, this.2⟩
def posI {α : Type} (v : α → Bool) : List α → Int → List Int
 | [], _ => []
 | x :: l, i => if v x = true then i :: posI v l (i + 1) else posI v l (i + 1)
theorem posI_len {α : Type} (v : α → Bool) : ∀ (l : List α) (i : Int), (posI v l i).length ≤ l.length
 | [], _ => Nat.le_refl _
 | x :: l, i => by rw [posI]; have := posI_len v l (i + 1); split <;> simp only [List.length_cons] <;> omega
theorem q61 (q : S53 → Option Bool) (x : S53) : QF61.f x.f0 x.f1 x.f2 x.f3.f0 x.f3.f1 x.f3.f2 q = q x := by obtain ⟨a, b, c, d⟩ := x; cases d; rfl
theorem flows_l0 {F : List S53} {v : S53 → Bool} (hf : F.length ≤ 100) : ∀ (n i : Nat) (acc : List Int), i + n = F.length → acc.length ≤ i →
  Ev (fun k => net_flows.l0 k (fun x => some (v x)) acc F (F.length : Int) (i : Int)) (acc ++ posI v (F.drop i) i)
 | 0, i, acc, hi, ha => by
  refine Ev.step (fun k => by rw [net_flows.l0]) ?_
  simp only [if_neg (show ¬ (i : Int) < (F.length : Int) by omega), drop_end (show F.length ≤ i by omega), posI, List.append_nil]
  exact Ev.now _
 | n + 1, i, acc, hi, ha => by
  refine Ev.step (fun k => by rw [net_flows.l0]) ?_
  have hlt : i < F.length := by omega
  simp only [if_pos (show (i : Int) < (F.length : Int) by omega), if_pos (show (0 : Int) ≤ (i : Int) by omega), rd53 hlt, drop_at hlt, posI, wrapI (i := i) (by omega), q61, Option.bind_some]
  cases v F[i] with
  | true =>
   simp only [if_true, if_pos (show acc.length < 17592186044416 by omega)]
   have := flows_l0 (v := v) hf n (i + 1) (acc ++ [(i : Int)]) (by omega) (by simp; omega)
   rw [List.append_assoc] at this
   exact this
  | false =>
   simp only [Bool.false_eq_true, if_false]
   exact flows_l0 (v := v) hf n (i + 1) acc (by omega) (by omega)
theorem flows_f {N : List S37} {F : List S53} (v : S53 → Bool) (hf : F.length ≤ 100) : Ev (fun k => net_flows.f k N F (fun x => some (v x))) (posI v F 0) := by
 have := flows_l0 (v := v) hf F.length 0 [] (by omega) (by simp)
 rw [List.nil_append, List.drop_zero] at this
 exact this
def ins (F : List S53) (i : Int) : List Int := posI (fun f => f.f1 == i) F 0
def outs (F : List S53) (i : Int) : List Int := posI (fun f => f.f0 == i) F 0
theorem ins_f {N : List S37} {F : List S53} (hf : F.length ≤ 100) (i : Int) : Ev (fun k => net_Ins.f k N F i) (ins F i) := by
 unfold net_Ins.f
 exact Ev.bind (flows_f (fun f => f.f1 == i) hf) (Ev.now _)
theorem outs_f {N : List S37} {F : List S53} (hf : F.length ≤ 100) (i : Int) : Ev (fun k => net_Outs.f k N F i) (outs F i) := by
 unfold net_Outs.f
 exact Ev.bind (flows_f (fun f => f.f0 == i) hf) (Ev.now _)
def first (N : List S37) (c : Int) : Int := fstI (fun x => x.f0 == c) N 0
theorem start_f {N : List S37} {F : List S53} (hn : N.length ≤ 1000000) : Ev (fun k => net_Start.f k N F) (first N 1) := by
 unfold net_Start.f
 exact Ev.bind (ixN (v := fun x => x.f0 == 1) hn) (Ev.now _)
theorem end_f {N : List S37} {F : List S53} (hn : N.length ≤ 1000000) : Ev (fun k => net_End.f k N F) (first N 2) := by
 unfold net_End.f
 exact Ev.bind (ixN (v := fun x => x.f0 == 2) hn) (Ev.now _)
theorem of_f {t : S35} (h : sm 60 t) (c : Int) : Ev (fun k => net_of.f k t.f0 t.f1 t.f2 c) (decide ((chk 60 t).2 = 0) && ((chk 60 t).1 == c)) := by
 unfold net_of.f
 refine Ev.bind (check_f h) ?_
 by_cases e : (chk 60 t).2 = 0
 ·simp only [if_pos e, decide_eq_true e, Bool.true_and]; exact Ev.now _
 ·simp only [if_neg e, decide_eq_false e, Bool.false_and]; exact Ev.now _
def isof (t : S35) (c : Int) : Bool := decide ((chk 60 t).2 = 0) && ((chk 60 t).1 == c)
def isnone (t : S35) : Bool := (decide (t.f0 = 0) && decide (t.f1 = 0)) && ((t.f2.length : Int) == 0)
theorem none_f (t : S35) : net_none.f t.f0 t.f1 t.f2 = some (isnone t) := by
 unfold net_none.f isnone
 by_cases h : t.f0 = 0
 ·rw [if_pos h, decide_eq_true h]
  by_cases h2 : t.f1 = 0
  ·rw [if_pos h2, decide_eq_true h2]; simp
  ·rw [if_neg h2, decide_eq_false h2]; simp
 ·rw [if_neg h, decide_eq_false h]; simp
def rgt (x : S37) : Bool :=
 if x.f0 < 1 then false else if x.f0 > 8 then false else if x.f1 < 0 then false
 else if x.f0 = 4 then (if x.f1 < 4 then isof x.f2 1 else false)
 else if x.f0 = 3 then (if x.f1 ≤ 3 then isnone x.f2 else false) else if x.f0 = 8 then (if x.f1 ≤ 4 then isnone x.f2 else false) else if x.f1 ≤ 0 then isnone x.f2 else false
theorem right_f {x : S37} (h : sm 60 x.f2) : Ev (fun k => net_right.f k x.f0 x.f1 x.f2.f0 x.f2.f1 x.f2.f2) (rgt x) := by
 unfold net_right.f rgt
 have hn : net_none.f 0 0 [] = some true := rfl
 by_cases h4 : x.f0 = 4
 ·simp only [if_pos h4, if_neg (show ¬ x.f0 < 1 by omega), if_neg (show ¬ x.f0 > 8 by omega), if_pos (show x.f0 ≥ 1 by omega), if_pos (show x.f0 ≤ 8 by omega), hn, Option.bind_some]
  refine Ev.bind (of_f h 1) ?_
  show Ev _ (if x.f1 < 0 then false else if x.f1 < 4 then isof x.f2 1 else false)
  unfold isof
  cases (decide ((chk 60 x.f2).2 = 0) && ((chk 60 x.f2).1 == 1)) with
  | false => simp only [Bool.false_eq_true, if_false, ite_self]; exact Ev.now _
  | true =>
   simp only [if_true]
   by_cases a : x.f1 < 0
   ·simp only [if_pos a, if_neg (show ¬ x.f1 ≥ 0 by omega)]; exact Ev.now _
   ·simp only [if_neg a, if_pos (show x.f1 ≥ 0 by omega)]
    by_cases b : x.f1 < 4
    ·simp only [if_pos b, if_pos (show x.f1 ≤ 3 by omega)]; exact Ev.now _
    ·simp only [if_neg b, if_neg (show ¬ x.f1 ≤ 3 by omega)]; exact Ev.now _
 ·simp only [if_neg h4, none_f, Option.bind_some]
  by_cases a1 : x.f0 < 1
  ·simp only [if_pos a1, if_neg (show ¬ x.f0 ≥ 1 by omega), ite_self]; exact Ev.now _
  simp only [if_neg a1, if_pos (show x.f0 ≥ 1 by omega)]
  by_cases a2 : x.f0 > 8
  ·simp only [if_pos a2, if_neg (show ¬ x.f0 ≤ 8 by omega), ite_self]; exact Ev.now _
  simp only [if_neg a2, if_pos (show x.f0 ≤ 8 by omega)]
  by_cases a3 : x.f1 < 0
  ·simp only [if_pos a3, if_neg (show ¬ x.f1 ≥ 0 by omega), ite_self]; exact Ev.now _
  simp only [if_neg a3, if_pos (show x.f1 ≥ 0 by omega)]
  by_cases a4 : x.f0 = 3
  ·simp only [if_pos a4]
   by_cases b : x.f1 ≤ 3
   ·simp only [if_pos b]; exact Ev.now _
   ·simp only [if_neg b]; exact Ev.now _
  simp only [if_neg a4]
  by_cases a5 : x.f0 = 8
  ·simp only [if_pos a5]
   by_cases b : x.f1 ≤ 4
   ·simp only [if_pos b]; exact Ev.now _
   ·simp only [if_neg b]; exact Ev.now _
  simp only [if_neg a5]
  by_cases b : x.f1 ≤ 0
  ·simp only [if_pos b]; exact Ev.now _
  ·simp only [if_neg b]; exact Ev.now _
def within (N : List S37) (f : S53) : Bool := if f.f0 < 0 then false else if f.f0 ≥ (N.length : Int) then false else if f.f1 < 0 then false else if f.f1 ≥ (N.length : Int) then false else f.f0 != f.f1
def lds (N : List S37) (F : List S53) (f : S53) : Bool :=
 if within N f = true then
  (if (rd_T37 N f.f0).f0 = 5 ∧ 2 ≤ (outs F f.f0).length then (if f.f2 = true then isnone f.f3 else isof f.f3 2) else if f.f2 = true then false else isnone f.f3)
 else false
theorem leads_f {N : List S37} {F : List S53} (hf : F.length ≤ 100) {f : S53} (h : sm 60 f.f3) : Ev (fun k => net_leads.f k N F f.f0 f.f1 f.f2 f.f3.f0 f.f3.f1 f.f3.f2) (lds N F f) := by
 unfold net_leads.f lds
 have jt : Ev (fun k => net_leads.j0 k true N F f.f0 f.f1 f.f2 f.f3.f0 f.f3.f1 f.f3.f2) false := by
  refine Ev.step (fun k => by rw [net_leads.j0]) ?_
  simp only [if_true]; exact Ev.now _
 have j1t : Ev (fun k => net_leads.j1 k true f.f0 f.f1 f.f2 f.f3.f0 f.f3.f1 f.f3.f2) (if f.f2 = true then false else isnone f.f3) := by
  refine Ev.step (fun k => by rw [net_leads.j1]) ?_
  simp only [if_true, none_f, Option.bind_some]
  cases f.f2 with
  | true => simp only [if_true]; exact Ev.now _
  | false => simp only [Bool.false_eq_true, if_false]; exact Ev.now _
 have j1f : Ev (fun k => net_leads.j1 k false f.f0 f.f1 f.f2 f.f3.f0 f.f3.f1 f.f3.f2) (if f.f2 = true then isnone f.f3 else isof f.f3 2) := by
  refine Ev.step (fun k => by rw [net_leads.j1]) ?_
  simp only [Bool.false_eq_true, if_false, none_f, Option.bind_some]
  cases f.f2 with
  | true => simp only [if_true]; exact Ev.now _
  | false => simp only [Bool.false_eq_true, if_false]; exact Ev.bind (of_f h 2) (Ev.now _)
 have hq : ∀ i, QF64.f i (net_leads_1.q N F) = some (decide (0 ≤ i) && decide (i < (N.length : Int))) := fun i => rfl
 simp only [hq, Option.bind_some]
 by_cases a : (decide (0 ≤ f.f0) && decide (f.f0 < (N.length : Int))) = true
 ·have a' := a
  simp only [Bool.and_eq_true, decide_eq_true_eq] at a'
  simp only [a, if_true]
  by_cases b : (decide (0 ≤ f.f1) && decide (f.f1 < (N.length : Int))) = true
  ·have b' := b
   simp only [Bool.and_eq_true, decide_eq_true_eq] at b'
   have hw : within N f = (f.f0 != f.f1) := by unfold within; rw [if_neg (by omega), if_neg (by omega), if_neg (by omega), if_neg (by omega)]
   simp only [b, if_true, hw]
   by_cases e : f.f0 = f.f1
   ·simp only [show (f.f0 == f.f1) = true from beq_iff_eq.mpr e, show (f.f0 != f.f1) = false from bne_eq_false_iff_eq.mpr e, Bool.false_eq_true, if_false]
    exact jt
   ·simp only [show (f.f0 == f.f1) = false from beq_eq_false_iff_ne.mpr e, show (f.f0 != f.f1) = true from bne_iff_ne.mpr e, if_true]
    refine Ev.step (fun k => by rw [net_leads.j0]) ?_
    simp only [Bool.false_eq_true, if_false, if_pos a'.1, if_pos a'.2]
    by_cases e5 : (rd_T37 N f.f0).f0 = 5
    ·simp only [if_pos e5]
     refine Ev.bind (outs_f hf f.f0) ?_
     by_cases e6 : ((outs F f.f0).length : Int) < 2
     ·simp only [decide_eq_true e6, if_neg (show ¬ ((rd_T37 N f.f0).f0 = 5 ∧ 2 ≤ (outs F f.f0).length) by omega)]
      exact j1t
     ·simp only [decide_eq_false e6, if_pos (show ((rd_T37 N f.f0).f0 = 5 ∧ 2 ≤ (outs F f.f0).length) from ⟨e5, by omega⟩)]
      exact j1f
    ·simp only [if_neg e5, if_neg (show ¬ ((rd_T37 N f.f0).f0 = 5 ∧ 2 ≤ (outs F f.f0).length) from fun h => e5 h.1)]
     exact j1t
  ·have hw : within N f = false := by
    simp only [Bool.and_eq_true, decide_eq_true_eq] at b
    unfold within
    rw [if_neg (by omega), if_neg (by omega)]
    by_cases c : f.f1 < 0
    ·rw [if_pos c]
    ·rw [if_neg c, if_pos (by omega)]
   simp only [Bool.not_eq_true] at b
   simp only [b, hw, Bool.false_eq_true, if_false]
   exact jt
 ·have hw : within N f = false := by
   simp only [Bool.and_eq_true, decide_eq_true_eq] at a
   unfold within
   by_cases c : f.f0 < 0
   ·rw [if_pos c]
   ·rw [if_neg c, if_pos (by omega)]
  simp only [Bool.not_eq_true] at a
  simp only [a, hw, Bool.false_eq_true, if_false]
  exact jt
end Go.Proofs.YtdaeiicdpfghlaaDoor.NP
end
section
set_option linter.unusedVariables false
set_option linter.unusedSimpArgs false
namespace Go.Proofs.YtdaeiicdpfghlaaDoor.NP
open Go.RowKit Go.Proofs.YtdaeiicdpfghlaaDoor.R Go.Proofs.YtdaeiicdpfghlaaDoorW.PrintWords Go.Proofs.YtdaeiicdpfghlaaDoorW.PrintLast
theorem rdI {l : List Int} {i : Nat} (h : i < l.length) : rd l (i : Int) = l[i] := by
 unfold rd
 rw [show (i : Int).toNat = i from rfl, List.getD_eq_getElem?_getD, List.getElem?_eq_getElem h]
 rfl
def isE (F : List S53) (j : Int) : Bool := (rd_T53 F j).f2
def isC (N : List S37) (F : List S53) (j : Int) : Bool := (rd_T37 N (rd_T53 F j).f1).f0 == 8
def fin (kd a b e : Int) (c : Bool) : Bool :=
 if kd = 1 then decide (a = 0) && decide (b = 1) else if kd = 2 then decide (a = 1) && decide (b = 0)
 else if kd = 7 then (decide (a = 1) && decide (b > 1)) && c
 else if kd = 5 then ((decide (a = 1) && decide (b > 1)) && decide (e = 1)) || (decide (a > 1) && decide (b = 1))
 else if kd = 6 then (decide (a = 1) && decide (b > 1)) || (decide (a > 1) && decide (b = 1))
 else decide (a = 1) && decide (b = 1)
def Within (N : List S37) (F : List S53) : Prop := ∀ f ∈ F, 0 ≤ f.f0 ∧ f.f0 < (N.length : Int) ∧ 0 ≤ f.f1 ∧ f.f1 < (N.length : Int)
theorem within_iff {N : List S37} {f : S53} (h : within N f = true) : 0 ≤ f.f0 ∧ f.f0 < (N.length : Int) ∧ 0 ≤ f.f1 ∧ f.f1 < (N.length : Int) := by
 unfold within at h
 by_cases a1 : f.f0 < 0
 ·rw [if_pos a1] at h; cases h
 rw [if_neg a1] at h
 by_cases a2 : f.f0 ≥ (N.length : Int)
 ·rw [if_pos a2] at h; cases h
 rw [if_neg a2] at h
 by_cases a3 : f.f1 < 0
 ·rw [if_pos a3] at h; cases h
 rw [if_neg a3] at h
 by_cases a4 : f.f1 ≥ (N.length : Int)
 ·rw [if_pos a4] at h; cases h
 omega
theorem rd53_mem {F : List S53} {j : Int} (h0 : 0 ≤ j) (h1 : j < (F.length : Int)) : rd_T53 F j ∈ F := by
 obtain ⟨n, rfl⟩ := Int.eq_ofNat_of_zero_le h0
 rw [rd53 (by omega)]
 exact List.getElem_mem _
theorem bq (x y : Int) : (x == y) = decide (x = y) := rfl
theorem fin_tree (kd a b e : Int) (c : Bool) : (if kd = 1 then (if a = 0 then (some (b == 1)) else (some false)) else (if kd = 2 then (if a = 1 then (some (b == 0)) else (some false)) else (if kd = 7 then (if a = 1 then (if b > 1 then (some c) else (some false)) else (some false)) else (if kd = 5 then (if a = 1 then (if b > 1 then (if kd = 6 then (some true) else (if e = 1 then (some true) else (if a > 1 then (some (b == 1)) else (some false)))) else (if a > 1 then (some (b == 1)) else (some false))) else (if a > 1 then (some (b == 1)) else (some false))) else (if kd = 6 then (if a = 1 then (if b > 1 then (some true) else (if a > 1 then (some (b == 1)) else (some false))) else (if a > 1 then (some (b == 1)) else (some false))) else (if a = 1 then (some (b == 1)) else (some false))))))) = some (fin kd a b e c) := by
 unfold fin
 simp only [bq]
 by_cases k1 : kd = 1
 ·by_cases a0 : a = 0 <;> simp [k1, a0]
 by_cases k2 : kd = 2
 ·by_cases a0 : a = 1 <;> simp [k2, a0]
 by_cases k7 : kd = 7
 ·by_cases a0 : a = 1 <;> by_cases b1 : b > 1 <;> simp [k7, a0, b1]
 by_cases k5 : kd = 5
 ·by_cases a0 : a = 1 <;> by_cases b1 : b > 1 <;> by_cases e1 : e = 1 <;> by_cases a1 : a > 1 <;> simp [k5, a0, b1, e1, a1]
 by_cases k6 : kd = 6
 ·by_cases a0 : a = 1 <;> by_cases b1 : b > 1 <;> by_cases a1 : a > 1 <;> simp [k6, a0, b1, a1]
 by_cases a0 : a = 1 <;> simp [k1, k2, k7, k5, k6, a0]
theorem linked_l0 {N : List S37} {F : List S53} (hW : Within N F) (L : List Int) (hL : ∀ j ∈ L, 0 ≤ j ∧ j < (F.length : Int)) (hl : L.length ≤ 1000) (L0 : List Int) (a kd : Int) : ∀ (n i : Nat) (e : Int) (c : Bool), i + n = L.length → 0 ≤ e → e ≤ i →
  Ev (fun k => net_linked.l0 k L0 a kd e c L (L.length : Int) (i : Int) N F) (fin kd a (L0.length : Int) (e + ((L.drop i).filter (isE F)).length) (c && (L.drop i).all (isC N F)))
 | 0, i, e, c, hi, h0, h1 => by
  refine Ev.step (fun k => by rw [net_linked.l0]) ?_
  simp only [if_neg (show ¬ (i : Int) < (L.length : Int) by omega), drop_end (show L.length ≤ i by omega), List.filter_nil, List.length_nil, List.all_nil, Bool.and_true, show e + ((0 : Nat) : Int) = e by omega]
  generalize (L0.length : Int) = b
  exact Ev.congr (f := fun _ => some (fin kd a b e c)) (fun k => fin_tree kd a b e c) (Ev.now _)
 | n + 1, i, e, c, hi, h0, h1 => by
  refine Ev.step (fun k => by rw [net_linked.l0]) ?_
  have hlt : i < L.length := by omega
  have hj := hL _ (List.getElem_mem hlt)
  have hw := hW _ (rd53_mem hj.1 hj.2)
  simp only [if_pos (show (i : Int) < (L.length : Int) by omega), if_pos (show (0 : Int) ≤ (i : Int) by omega), rdI hlt, if_pos hj.1, if_pos hj.2, if_pos hw.2.2.1, if_pos hw.2.2.2, wrapI (i := i) (by omega), wrapS (x := e + 1) (by omega) (by omega), drop_at hlt, List.filter_cons, List.all_cons]
  have eE : (rd_T53 F L[i]).f2 = isE F L[i] := rfl
  have eC : ((rd_T37 N (rd_T53 F L[i]).f1).f0 == 8) = isC N F L[i] := rfl
  rw [eE, eC]
  cases hE : isE F L[i] with
  | true =>
   simp only [if_true, List.length_cons]
   have ih := linked_l0 hW L hL hl L0 a kd n (i + 1) (e + 1)
   cases c with
   | true =>
    simp only [if_true, Bool.true_and]
    have := ih (isC N F L[i]) (by omega) (by omega) (by omega)
    rwa [show e + 1 + (((L.drop (i + 1)).filter (isE F)).length : Int) = e + ((((L.drop (i + 1)).filter (isE F)).length + 1 : Nat) : Int) by omega] at this
   | false =>
    simp only [Bool.false_eq_true, if_false, Bool.false_and]
    have := ih false (by omega) (by omega) (by omega)
    rwa [Bool.false_and, show e + 1 + (((L.drop (i + 1)).filter (isE F)).length : Int) = e + ((((L.drop (i + 1)).filter (isE F)).length + 1 : Nat) : Int) by omega] at this
  | false =>
   simp only [Bool.false_eq_true, if_false]
   have ih := linked_l0 hW L hL hl L0 a kd n (i + 1) e
   cases c with
   | true =>
    simp only [if_true, Bool.true_and]
    exact ih (isC N F L[i]) (by omega) (by omega) (by omega)
   | false =>
    simp only [Bool.false_eq_true, if_false, Bool.false_and]
    have := ih false (by omega) (by omega) (by omega)
    rwa [Bool.false_and] at this
theorem posI_mem {α : Type} (v : α → Bool) : ∀ (l : List α) (i j : Int), j ∈ posI v l i → i ≤ j ∧ j < i + l.length
 | [], i, j, h => by simp [posI] at h
 | x :: l, i, j, h => by
  rw [posI] at h
  have key : j ∈ posI v l (i + 1) → i ≤ j ∧ j < i + (x :: l).length := by
   intro h
   have := posI_mem v l (i + 1) j h
   simp only [List.length_cons]
   omega
  split at h
  ·rcases List.mem_cons.1 h with rfl | h
   ·simp only [List.length_cons]; omega
   ·exact key h
  ·exact key h
def lnk (N : List S37) (F : List S53) (i : Int) : Bool := fin (rd_T37 N i).f0 ((ins F i).length : Int) ((outs F i).length : Int) (((outs F i).filter (isE F)).length : Int) ((outs F i).all (isC N F))
theorem outs_in {F : List S53} {i : Int} : ∀ j ∈ outs F i, 0 ≤ j ∧ j < (F.length : Int) := by
 intro j hj
 have := posI_mem _ F 0 j hj
 omega
theorem outs_len (F : List S53) (i : Int) : (outs F i).length ≤ F.length := posI_len _ _ _
theorem ins_len (F : List S53) (i : Int) : (ins F i).length ≤ F.length := posI_len _ _ _
theorem linked_f {N : List S37} {F : List S53} (hf : F.length ≤ 100) (hW : Within N F) {i : Int} (h0 : 0 ≤ i) (h1 : i < (N.length : Int)) : Ev (fun k => net_linked.f k N F i) (lnk N F i) := by
 unfold net_linked.f lnk
 refine Ev.bind (outs_f hf i) (Ev.bind (ins_f hf i) ?_)
 simp only [if_pos h0, if_pos h1]
 have := linked_l0 hW (outs F i) outs_in (by have := outs_len F i; omega) (outs F i) ((ins F i).length : Int) (rd_T37 N i).f0 (outs F i).length 0 0 true (by omega) (by omega) (by omega)
 simpa using this
end Go.Proofs.YtdaeiicdpfghlaaDoor.NP
end
section
set_option linter.unusedVariables false
set_option linter.unusedSimpArgs false
namespace Go.Proofs.YtdaeiicdpfghlaaDoor.NP
open Go.RowKit Go.Proofs.YtdaeiicdpfghlaaDoor.R Go.Proofs.YtdaeiicdpfghlaaDoorW.PrintWords Go.Proofs.YtdaeiicdpfghlaaDoorW.PrintLast
def closed (P : List (Nat × Nat)) (u : Nat → Prop) : Prop := ∀ p ∈ P, u p.1 → u p.2
def T (t : List Bool) (i : Nat) : Prop := t.getD i false = true
instance (t : List Bool) (i : Nat) : Decidable (T t i) := by unfold T; infer_instance
def IsCl (P : List (Nat × Nat)) (s : Nat → Prop) (r : List Bool) : Prop := (∀ i, s i → T r i) ∧ closed P (T r) ∧ ∀ u : Nat → Prop, closed P u → (∀ i, s i → u i) → ∀ i, T r i → u i
def inCl (P : List (Nat × Nat)) (s : Nat → Prop) (j : Nat) : Prop := ∀ u : Nat → Prop, closed P u → (∀ i, s i → u i) → u j
theorem IsCl.iff {P : List (Nat × Nat)} {s : Nat → Prop} {r : List Bool} (h : IsCl P s r) (j : Nat) : T r j ↔ inCl P s j :=
 ⟨fun hj u hu hs => h.2.2 u hu hs j hj, fun hj => hj (T r) h.2.1 h.1⟩
theorem T_set {t : List Bool} {j : Nat} (hj : j < t.length) (i : Nat) : T (t.set j true) i ↔ i = j ∨ T t i := by
 unfold T
 rw [List.getD_eq_getElem?_getD, List.getD_eq_getElem?_getD, List.getElem?_set]
 by_cases h : j = i
 ·subst h
  simp [hj]
 ·rw [if_neg h]
  simp [Ne.symm h]
theorem T_rep (n i : Nat) : ¬ T (List.replicate n false) i := by
 unfold T
 rw [List.getD_eq_getElem?_getD, List.getElem?_replicate]
 split <;> simp
theorem rdT (t : List Bool) (i : Nat) : rdOf false t (i : Int) = t.getD i false := by unfold rdOf; rw [show (i : Int).toNat = i from rfl]
def falses (t : List Bool) : Nat := t.count false
theorem falses_set : ∀ {t : List Bool} {j : Nat}, j < t.length → ¬ T t j → falses (t.set j true) + 1 = falses t
 | a :: t, 0, h, hn => by
  have e : a = false := by simpa [T] using hn
  subst e
  simp [falses]
 | a :: t, j + 1, h, hn => by
  have := falses_set (t := t) (j := j) (by simpa using h) (by simpa [T] using hn)
  simp only [falses, List.set_cons_succ, List.count_cons] at this ⊢
  omega
theorem falses_le (t : List Bool) : falses t ≤ t.length := List.count_le_length
def ed (back : Bool) (f : S53) : Nat × Nat := if back = true then (f.f1.toNat, f.f0.toNat) else (f.f0.toNat, f.f1.toNat)
def eds (back : Bool) (F : List S53) : List (Nat × Nat) := F.map (ed back)
def adds (back : Bool) (i : Int) (F : List S53) : List Int := (F.filter (fun f => (if back = true then f.f1 else f.f0) == i)).map (fun f => if back = true then f.f0 else f.f1)
theorem adds_len (back : Bool) (i : Int) (F : List S53) : (adds back i F).length ≤ F.length := by unfold adds; rw [List.length_map]; exact List.length_filter_le _ _
theorem adds_cons (back : Bool) (i : Int) (f : S53) (F : List S53) : adds back i (f :: F) = if ((if back = true then f.f1 else f.f0) == i) = true then (if back = true then f.f0 else f.f1) :: adds back i F else adds back i F := by
 unfold adds
 rw [List.filter_cons]
 by_cases h : ((if back = true then f.f1 else f.f0) == i) = true
 ·rw [if_pos h, if_pos h]; rfl
 ·rw [if_neg h, if_neg h]
theorem met_l1 {N : List S37} {F : List S53} (back : Bool) (seen : List Bool) (i : Int) (r : List Bool) (hf : F.length ≤ 100) : ∀ (d x : Nat) (todo : List Int), x + d = F.length → todo.length + d ≤ 1000000 →
  Ev (fun k => net_met.l0 k back seen (todo ++ adds back i (F.drop x)) N F) r → Ev (fun k => net_met.l1 k back seen todo i F (F.length : Int) (x : Int) N F) r
 | 0, x, todo, hx, ht, h => by
  refine Ev.step (fun k => by rw [net_met.l1]) ?_
  simp only [if_neg (show ¬ (x : Int) < (F.length : Int) by omega)]
  rwa [drop_end (by omega), show adds back i [] = [] from rfl, List.append_nil] at h
 | d + 1, x, todo, hx, ht, h => by
  have hlt : x < F.length := by omega
  rw [drop_at hlt, adds_cons] at h
  have go : ∀ b : Bool, b = (back && (F[x].f1 == i)) → Ev (fun k => net_met.j2 k back seen todo i F (F.length : Int) (x : Int) b N F F[x].f0 F[x].f1 F[x].f2 F[x].f3.f0 F[x].f3.f1 F[x].f3.f2) r := by
   intro b hb
   refine Ev.step (fun k => by rw [net_met.j2]) ?_
   simp only [wrapI (i := x) (by omega)]
   cases b with
   | true =>
    have e := hb.symm
    rw [Bool.and_eq_true] at e
    rw [e.1] at h ⊢
    simp only [if_true, e.2] at h
    simp only [if_true, if_pos (show todo.length < 17592186044416 by omega)]
    refine met_l1 true seen i r hf d (x + 1) (todo ++ [F[x].f0]) (by omega) (by rw [List.length_append]; simp only [List.length_singleton]; omega) ?_
    rwa [List.append_assoc]
   | false =>
    simp only [Bool.false_eq_true, if_false]
    cases back with
    | true =>
     rw [Bool.true_and] at hb
     simp only [if_true, ← hb, Bool.false_eq_true, if_false] at h
     simp only [if_true]
     exact met_l1 true seen i r hf d (x + 1) todo (by omega) (by omega) h
    | false =>
     simp only [Bool.false_eq_true, if_false, beq_iff_eq] at h
     simp only [Bool.false_eq_true, if_false]
     by_cases e : F[x].f0 = i
     ·simp only [if_pos e] at h
      simp only [if_pos e, if_pos (show todo.length < 17592186044416 by omega)]
      refine met_l1 false seen i r hf d (x + 1) (todo ++ [F[x].f1]) (by omega) (by rw [List.length_append]; simp only [List.length_singleton]; omega) ?_
      rwa [List.append_assoc]
     ·simp only [if_neg e] at h
      simp only [if_neg e]
      exact met_l1 false seen i r hf d (x + 1) todo (by omega) (by omega) h
  refine Ev.step (fun k => by rw [net_met.l1]) ?_
  simp only [if_pos (show (x : Int) < (F.length : Int) by omega), if_pos (show (0 : Int) ≤ (x : Int) by omega), rd53 hlt]
  cases hb : back with
  | true =>
   simp only [if_true]
   rw [hb] at go
   exact go (F[x].f1 == i) (by simp)
  | false =>
   simp only [Bool.false_eq_true, if_false]
   rw [hb] at go
   exact go false (by simp)
theorem met_l0 {N : List S37} {F : List S53} (hf : F.length ≤ 100) (hn : N.length ≤ 100) (hW : Within N F) (back : Bool) (m : Nat) : ∀ (seen : List Bool) (todo : List Int), falses seen * (F.length + 1) + todo.length = m → m ≤ 900000 → seen.length = N.length → (∀ j ∈ todo, 0 ≤ j ∧ j < (N.length : Int)) →
  (∀ p ∈ eds back F, T seen p.1 → T seen p.2 ∨ (p.2 : Int) ∈ todo) →
  ∃ r, Ev (fun k => net_met.l0 k back seen todo N F) r ∧ r.length = N.length ∧ IsCl (eds back F) (fun i => T seen i ∨ (i : Int) ∈ todo) r := by
 induction m using Nat.strongRecOn with
 | _ m ih =>
  intro seen todo hm hb hs ht hi
  cases todo with
  | nil =>
   refine ⟨seen, Ev.step (fun k => by rw [net_met.l0]) ?_, hs, ?_, ?_, ?_⟩
   ·simp only [List.length_nil, show ¬ (((0 : Nat) : Int) > 0) by decide, if_false]
    exact Ev.now _
   ·intro i h; rcases h with h | h
    ·exact h
    ·simp at h
   ·intro p hp h; rcases hi p hp h with h | h
    ·exact h
    ·simp at h
   ·intro u hu hsu i h; exact hsu i (.inl h)
  | cons j rest =>
   have hj := ht j (by simp)
   obtain ⟨q, rfl⟩ := Int.eq_ofNat_of_zero_le hj.1
   have hq : q < seen.length := by omega
   rw [List.length_cons] at hm
   have e1 : rd ((q : Int) :: rest) 0 = (q : Int) := rfl
   have e2 : ((q : Int) :: rest).drop (1 : Int).toNat = rest := rfl
   by_cases h : T seen q
   ·obtain ⟨r, he, hr, h1, h2, h3⟩ := ih (falses seen * (F.length + 1) + rest.length) (by omega) seen rest rfl (by omega) hs (fun j hj => ht j (by simp [hj])) (fun p hp hh => by
     rcases hi p hp hh with h4 | h4
     ·exact .inl h4
     ·rcases List.mem_cons.1 h4 with h5 | h5
      ·rw [show p.2 = q by omega]; exact .inl h
      ·exact .inr h5)
    refine ⟨r, Ev.step (fun k => by rw [net_met.l0]) ?_, hr, ?_, h2, ?_⟩
    ·simp only [e1, e2, List.length_cons, if_pos (show (((rest.length + 1 : Nat) : Int) > 0) by omega), if_pos (show (0 : Int) < ((rest.length + 1 : Nat) : Int) by omega), if_pos (show (1 : Int) ≤ ((rest.length + 1 : Nat) : Int) by omega), Option.bind_some, if_pos (show (0 : Int) ≤ (q : Int) by omega), if_pos (show (q : Int) < (seen.length : Int) by omega), rdT]
     rw [show seen.getD q false = true from h]
     simp only [if_true]
     exact he
    ·intro i hh
     rcases hh with hh | hh
     ·exact h1 i (.inl hh)
     ·rcases List.mem_cons.1 hh with h5 | h5
      ·rw [show i = q by omega]; exact h1 q (.inl h)
      ·exact h1 i (.inr h5)
    ·intro u hu hsu i hh
     exact h3 u hu (fun i hi => hsu i (by
      rcases hi with hi | hi
      ·exact .inl hi
      ·exact .inr (List.mem_cons_of_mem _ hi))) i hh
   ·have hfs := falses_set hq h
    have hal := adds_len back (q : Int) F
    have hmul : falses seen * (F.length + 1) = falses (seen.set q true) * (F.length + 1) + (F.length + 1) := by rw [← hfs, Nat.add_mul, Nat.one_mul]
    have hmem : ∀ x, x ∈ adds back (q : Int) F ↔ ∃ p ∈ eds back F, p.1 = q ∧ (p.2 : Int) = x := by
     intro x
     unfold adds eds
     rw [List.mem_map]
     constructor
     ·rintro ⟨f, hf1, rfl⟩
      obtain ⟨hf1, hf2⟩ := List.mem_filter.1 hf1
      have hw := hW f hf1
      refine ⟨ed back f, List.mem_map.2 ⟨f, hf1, rfl⟩, ?_⟩
      simp only [beq_iff_eq] at hf2
      unfold ed
      cases back
      ·simp only [Bool.false_eq_true, if_false] at hf2 ⊢; omega
      ·simp only [if_true] at hf2 ⊢; omega
     ·rintro ⟨p, hp, h1, h2⟩
      obtain ⟨f, hf1, rfl⟩ := List.mem_map.1 hp
      have hw := hW f hf1
      refine ⟨f, List.mem_filter.2 ⟨hf1, ?_⟩, ?_⟩
      ·simp only [beq_iff_eq]
       unfold ed at h1
       cases back
       ·simp only [Bool.false_eq_true, if_false] at h1 ⊢; omega
       ·simp only [if_true] at h1 ⊢; omega
      ·unfold ed at h2
       cases back
       ·simp only [Bool.false_eq_true, if_false] at h2 ⊢; omega
       ·simp only [if_true] at h2 ⊢; omega
    have hval : ∀ p ∈ eds back F, p.2 < N.length := by
     intro p hp
     obtain ⟨f, hf1, rfl⟩ := List.mem_map.1 hp
     have hw := hW f hf1
     unfold ed
     cases back
     ·simp only [Bool.false_eq_true, if_false]; omega
     ·simp only [if_true]; omega
    obtain ⟨r, he, hr, h1, h2, h3⟩ := ih (falses (seen.set q true) * (F.length + 1) + (rest ++ adds back (q : Int) F).length) (by rw [List.length_append]; omega) (seen.set q true) (rest ++ adds back (q : Int) F) rfl (by rw [List.length_append]; omega) (by simpa using hs)
     (fun j hj => by
      rcases List.mem_append.1 hj with hj | hj
      ·exact ht j (by simp [hj])
      ·obtain ⟨p, hp, _, rfl⟩ := (hmem j).1 hj
       have := hval p hp
       omega)
     (fun p hp hh => by
      rcases (T_set hq _).1 hh with h4 | h4
      ·exact .inr (List.mem_append.2 (.inr ((hmem _).2 ⟨p, hp, h4, rfl⟩)))
      ·rcases hi p hp h4 with h5 | h5
       ·exact .inl ((T_set hq _).2 (.inr h5))
       ·rcases List.mem_cons.1 h5 with h6 | h6
        ·exact .inl ((T_set hq _).2 (.inl (by omega)))
        ·exact .inr (List.mem_append.2 (.inl h6)))
    refine ⟨r, Ev.step (fun k => by rw [net_met.l0]) ?_, hr, ?_, h2, ?_⟩
    ·simp only [e1, e2, List.length_cons, if_pos (show (((rest.length + 1 : Nat) : Int) > 0) by omega), if_pos (show (0 : Int) < ((rest.length + 1 : Nat) : Int) by omega), if_pos (show (1 : Int) ≤ ((rest.length + 1 : Nat) : Int) by omega), Option.bind_some, if_pos (show (0 : Int) ≤ (q : Int) by omega), if_pos (show (q : Int) < (seen.length : Int) by omega), rdT]
     rw [show seen.getD q false = false by unfold T at h; simpa using h]
     simp only [Bool.false_eq_true, if_false, show ((q : Nat) : Int).toNat = q from rfl]
     refine met_l1 back (seen.set q true) (q : Int) r hf F.length 0 rest (by omega) (by omega) ?_
     rwa [List.drop_zero]
    ·intro i hh
     rcases hh with hh | hh
     ·exact h1 i (.inl ((T_set hq _).2 (.inr hh)))
     ·rcases List.mem_cons.1 hh with h5 | h5
      ·exact h1 i (.inl ((T_set hq _).2 (.inl (by omega))))
      ·exact h1 i (.inr (List.mem_append.2 (.inl h5)))
    ·intro u hu hsu i hh
     have huq : u q := hsu q (.inr (by simp))
     refine h3 u hu (fun i hi => ?_) i hh
     rcases hi with hi | hi
     ·rcases (T_set hq _).1 hi with h4 | h4
      ·rw [h4]; exact huq
      ·exact hsu i (.inl h4)
     ·rcases List.mem_append.1 hi with h4 | h4
      ·exact hsu i (.inr (List.mem_cons_of_mem _ h4))
      ·obtain ⟨p, hp, h5, h6⟩ := (hmem _).1 h4
       rw [show i = p.2 by omega]
       exact hu p hp (by rw [h5]; exact huq)
theorem met_f {N : List S37} {F : List S53} (hf : F.length ≤ 100) (hn : N.length ≤ 100) (hW : Within N F) (back : Bool) {a : Nat} (ha : a < N.length) :
  ∃ r, Ev (fun k => net_met.f k N F (a : Int) back) r ∧ r.length = N.length ∧ ∀ i, T r i ↔ inCl (eds back F) (fun q => q = a) i := by
 have hfl : falses (List.replicate N.length false) ≤ N.length := by have := falses_le (List.replicate N.length false); simpa using this
 obtain ⟨r, he, hr, hc⟩ := met_l0 hf hn hW back _ (List.replicate N.length false) [(a : Int)] rfl (by
   have : falses (List.replicate N.length false) * (F.length + 1) ≤ 100 * 101 := Nat.mul_le_mul (by omega) (by omega)
   simp only [List.length_singleton]; omega) (by simp) (fun j hj => by simp only [List.mem_singleton] at hj; omega) (fun p _ h => absurd h (T_rep _ _))
 refine ⟨r, ?_, hr, fun i => ?_⟩
 ·unfold net_met.f
  simp only [if_pos (show (0 : Int) ≤ (N.length : Int) by omega), show ((N.length : Nat) : Int).toNat = N.length from rfl, if_pos (show N.length ≤ 281474976710656 by omega)]
  exact he
 ·rw [hc.iff]
  constructor
  ·intro h u hu hs
   refine h u hu (fun i hi => ?_)
   rcases hi with hi | hi
   ·exact absurd hi (T_rep _ _)
   ·simp only [List.mem_singleton] at hi
    exact hs i (by omega)
  ·intro h u hu hs
   exact h u hu (fun i hi => hs i (.inr (by rw [hi]; simp)))
def road (F : List S53) (a b : Nat) : Prop := inCl (eds false F) (fun q => q = a) b
theorem road_back (F : List S53) (a b : Nat) : inCl (eds true F) (fun q => q = b) a ↔ road F a b := by
 have ht : ∀ f : S53, ed true f = ((ed false f).2, (ed false f).1) := fun f => by unfold ed; simp
 constructor
 ·intro h
  refine h (fun i => road F i b) ?_ (fun i hi => ?_)
  ·intro p hp hh u hu hs
   obtain ⟨f, hf1, rfl⟩ := List.mem_map.1 hp
   rw [ht] at hh hs
   refine hh u hu (fun i hi => ?_)
   rw [hi]
   exact hu (ed false f) (List.mem_map.2 ⟨f, hf1, rfl⟩) (hs _ rfl)
  ·intro u hu hs
   exact hs b hi.symm
 ·intro h u hu hs
  refine h (fun i => u i → u a) ?_ (fun i hi hi2 => by rw [← hi]; exact hi2) (hs b rfl)
  intro p hp h1 h2
  obtain ⟨f, hf1, rfl⟩ := List.mem_map.1 hp
  have := hu (ed true f) (List.mem_map.2 ⟨f, hf1, rfl⟩)
  rw [ht] at this
  exact h1 (this h2)
end Go.Proofs.YtdaeiicdpfghlaaDoor.NP
end
section
set_option linter.unusedVariables false
set_option linter.unusedSimpArgs false
namespace Go.Proofs.YtdaeiicdpfghlaaDoor.NP
open Go.RowKit Go.Proofs.YtdaeiicdpfghlaaDoor.R Go.Proofs.YtdaeiicdpfghlaaDoorW.PrintWords Go.Proofs.YtdaeiicdpfghlaaDoorW.PrintLast
def plcI (r : Int) (v : Int → Bool) : Nat → Int → List S47
 | 0, _ => []
 | d + 1, i => if v i = true then (⟨r, i⟩ : S47) :: plcI r v d (i + 1) else plcI r v d (i + 1)
theorem plcI_len (r : Int) (v : Int → Bool) : ∀ (d : Nat) (i : Int), (plcI r v d i).length ≤ d
 | 0, _ => Nat.le_refl _
 | d + 1, i => by rw [plcI]; have := plcI_len r v d (i + 1); split <;> (try simp only [List.length_cons]) <;> omega
theorem plcI_rule (r : Int) (v : Int → Bool) : ∀ (d : Nat) (i : Int), ∀ x ∈ plcI r v d i, x.f0 = r ∧ i ≤ x.f1 ∧ x.f1 < i + d
 | 0, _, x, h => by simp [plcI] at h
 | d + 1, i, x, h => by
  rw [plcI] at h
  have key : x ∈ plcI r v d (i + 1) → x.f0 = r ∧ i ≤ x.f1 ∧ x.f1 < i + (d + 1 : Nat) := by
   intro h; have := plcI_rule r v d (i + 1) x h; exact ⟨this.1, by omega, by omega⟩
  split at h
  ·rcases List.mem_cons.1 h with rfl | h
   ·exact ⟨rfl, Int.le_refl _, by show i < i + _; omega⟩
   ·exact key h
  ·exact key h
theorem plcI_nil {r : Int} {v : Int → Bool} : ∀ {d : Nat} {i : Int}, plcI r v d i = [] → ∀ j, i ≤ j → j < i + d → v j = false
 | 0, i, _, j, h0, h1 => by omega
 | d + 1, i, h, j, h0, h1 => by
  rw [plcI] at h
  cases hv : v i with
  | true => rw [hv, if_pos rfl] at h; cases h
  | false =>
   rw [hv, if_neg (by decide)] at h
   by_cases e : j = i
   ·rw [e]; exact hv
   ·exact plcI_nil h j (by omega) (by omega)
theorem places_l0 {n : Nat} (r : Int) (q : Int → Option Bool) (v : Int → Bool) (hq : ∀ i, 0 ≤ i → i < (n : Int) → q i = some (v i)) (hn : n ≤ 1000000) : ∀ (d i m : Nat) (acc : List S47), i + d = n → d < m → acc.length ≤ i → net_places.l0 m r q acc (n : Int) (i : Int) = some (acc ++ plcI r v d i)
 | d, i, 0, acc, _, h, _ => absurd h (by omega)
 | 0, i, m + 1, acc, hi, _, ha => by rw [net_places.l0, if_neg (by omega), plcI, List.append_nil]
 | d + 1, i, m + 1, acc, hi, hm, ha => by
  rw [net_places.l0, if_pos (by omega), show QF64.f (i : Int) q = q (i : Int) from rfl, hq i (by omega) (by omega), Option.bind_some, wrapI (by omega), plcI]
  cases v i with
  | true =>
   simp only [if_true]
   rw [if_pos (by omega), places_l0 r q v hq hn d (i + 1) m _ (by omega) (by omega) (by rw [List.length_append]; simp only [List.length_singleton]; omega), List.append_assoc]
   rfl
  | false =>
   simp only [Bool.false_eq_true, if_false]
   exact places_l0 r q v hq hn d (i + 1) m acc (by omega) (by omega) (by omega)
theorem places_f {n : Nat} (r : Int) {q : Nat → Int → Option Bool} {v : Int → Bool} (hn : n ≤ 1000000) (h : ∀ i : Nat, i < n → Ev (fun k => q k (i : Int)) (v i)) : Ev (fun k => net_places.f k r (n : Int) (q k)) (plcI r v n 0) := by
 obtain ⟨K, hK⟩ := ev_all (q := fun k (i : Nat) => q k (i : Int)) (v := fun i : Nat => v i) (List.range n) (fun i hi => h i (List.mem_range.1 hi))
 refine ⟨K + n + 1, fun k hk => ?_⟩
 unfold net_places.f
 have := places_l0 r (q k) v (fun i h0 h1 => by
  obtain ⟨m, rfl⟩ := Int.eq_ofNat_of_zero_le h0
  exact hK k (by omega) m (List.mem_range.2 (by omega))) hn n 0 k [] (by omega) (by omega) (by simp)
 rw [List.nil_append] at this
 exact this
def v1 (N : List S37) (i : Int) : Bool := !(rgt (rd_T37 N i))
def v2 (N : List S37) (F : List S53) (i : Int) : Bool := !(lds N F (rd_T53 F i))
def v3 (N : List S37) (F : List S53) (i : Int) : Bool := (!(lnk N F i) || ((rd_T37 N i).f0 == 1 && i != first N 1)) || ((rd_T37 N i).f0 == 2 && i != first N 2)
noncomputable def v4 (F : List S53) (s e i : Int) : Bool := @decide (¬ (road F s.toNat i.toNat ∧ road F i.toNat e.toNat)) (Classical.propDecidable _)
theorem v4_iff (F : List S53) (s e i : Int) : v4 F s e i = true ↔ ¬ (road F s.toNat i.toNat ∧ road F i.toNat e.toNat) := by unfold v4; exact @decide_eq_true_iff _ (Classical.propDecidable _)
def lost (N : List S37) : Bool := decide (first N 1 < 0) || decide (first N 2 < 0)
def P1 (N : List S37) : List S47 := plcI 1 (v1 N) N.length 0
def P2 (N : List S37) (F : List S53) : List S47 := plcI 2 (v2 N F) F.length 0
def P3 (N : List S37) (F : List S53) : List S47 := plcI 3 (v3 N F) N.length 0 ++ (if lost N = true then [(⟨3, (N.length : Int)⟩ : S47)] else [])
noncomputable def P4 (N : List S37) (F : List S53) : List S47 := plcI 4 (v4 F (first N 1) (first N 2)) N.length 0
def big (N : List S37) (F : List S53) : Prop := N.length > 24 ∨ F.length > 40
instance (N : List S37) (F : List S53) : Decidable (big N F) := by unfold big; infer_instance
noncomputable def allV (N : List S37) (F : List S53) : List S47 :=
 if big N F then [(⟨1, 0⟩ : S47)] else if (P1 N).length > 0 then P1 N else if (P2 N F).length > 0 then P2 N F else if (P3 N F).length > 0 then P3 N F else P4 N F
theorem nil_of {α : Type} {l : List α} (h : ¬ l.length > 0) : l = [] := List.eq_nil_of_length_eq_zero (by omega)
theorem rd37_mem {N : List S37} {j : Int} (h0 : 0 ≤ j) (h1 : j < (N.length : Int)) : rd_T37 N j ∈ N := by
 obtain ⟨n, rfl⟩ := Int.eq_ofNat_of_zero_le h0
 rw [rd37 (by omega)]
 exact List.getElem_mem _
theorem within_of {N : List S37} {F : List S53} (h : P2 N F = []) : Within N F := by
 intro f hf
 obtain ⟨j, hj, rfl⟩ := List.getElem_of_mem hf
 have := plcI_nil h (j : Int) (by omega) (by omega)
 unfold v2 at this
 rw [rd53 hj] at this
 have hl : lds N F F[j] = true := by cases hh : lds N F F[j] <;> simp_all
 unfold lds at hl
 by_cases hw : within N F[j] = true
 ·exact within_iff hw
 ·rw [if_neg hw] at hl; cases hl
theorem fst_lt {α : Type} (v : α → Bool) : ∀ (l : List α) (i : Int), fstI v l i < i + l.length ∨ fstI v l i = -1
 | [], i => .inr rfl
 | x :: l, i => by
  rw [fstI]
  split
  ·left; simp only [List.length_cons]; omega
  ·rcases fst_lt v l (i + 1) with h | h
   ·left; simp only [List.length_cons]; omega
   ·exact .inr h
theorem first_lt {N : List S37} {c : Int} (h : 0 ≤ first N c) : first N c < (N.length : Int) := by
 rcases fst_lt (fun x : S37 => x.f0 == c) N 0 with h1 | h1
 ·unfold first; omega
 ·unfold first at h; omega
theorem third_f {N : List S37} {F : List S53} (h : Ok N F) (hW : Within N F) : Ev (fun k => net_third.f k N F) (P3 N F) := by
 unfold net_third.f P3 lost
 have hn := h.n
 refine Ev.bind (start_f (by omega)) (Ev.bind (end_f (by omega)) ?_)
 have hp : Ev (fun k => net_places.f k 3 (N.length : Int) (net_third_1.q k N F (first N 1) (first N 2))) (plcI 3 (v3 N F) N.length 0) := by
  refine places_f 3 (q := fun k => net_third_1.q k N F (first N 1) (first N 2)) (by omega) (fun i hi => ?_)
  unfold net_third_1.q
  simp only [if_pos (show (0 : Int) ≤ (i : Int) by omega), if_pos (show (i : Int) < (N.length : Int) by omega)]
  exact Ev.bind (linked_f h.f hW (by omega) (by omega)) (Ev.now _)
 refine Ev.bind hp ?_
 have hlen := plcI_len 3 (v3 N F) N.length 0
 by_cases a : first N 1 < 0
 ·simp only [if_pos a, if_pos (show (plcI 3 (v3 N F) N.length 0).length < 8796093022208 by omega), decide_eq_true a, Bool.true_or, if_true]; exact Ev.now _
 ·simp only [if_neg a, decide_eq_false a, Bool.false_or]
  by_cases b : first N 2 < 0
  ·simp only [if_pos b, if_pos (show (plcI 3 (v3 N F) N.length 0).length < 8796093022208 by omega), decide_eq_true b, if_true]; exact Ev.now _
  ·simp only [if_neg b, decide_eq_false b, Bool.false_eq_true, if_false, List.append_nil]; exact Ev.now _
theorem lost_of {N : List S37} {F : List S53} (h : P3 N F = []) : 0 ≤ first N 1 ∧ 0 ≤ first N 2 := by
 unfold P3 lost at h
 have := List.append_eq_nil_iff.1 h
 by_cases a : first N 1 < 0
 ·rw [decide_eq_true a, Bool.true_or, if_pos rfl] at this; exact absurd this.2 (by simp)
 by_cases b : first N 2 < 0
 ·rw [decide_eq_true b, Bool.or_true, if_pos rfl] at this; exact absurd this.2 (by simp)
 omega
theorem p4_f {N : List S37} {F : List S53} (h : Ok N F) (hW : Within N F) (h3 : P3 N F = []) : Ev (fun k => (net_Start.f k N F).bind fun t238 => ((net_met.f k N F t238 false).bind fun t239 => ((net_End.f k N F).bind fun t242 => ((net_met.f k N F t242 true).bind fun t243 => ((net_places.f k 4 (N.length : Int) (net_All_3.q t239 t243)).bind fun t248 => (some t248)))))) (P4 N F) := by
 have hn := h.n
 obtain ⟨hs, he⟩ := lost_of h3
 obtain ⟨s, hs1⟩ := Int.eq_ofNat_of_zero_le hs
 obtain ⟨e, he1⟩ := Int.eq_ofNat_of_zero_le he
 have hsl := first_lt hs
 have hel := first_lt he
 obtain ⟨t, ht1, ht2, ht3⟩ := met_f h.f (by omega) hW false (a := s) (by omega)
 obtain ⟨b, hb1, hb2, hb3⟩ := met_f h.f (by omega) hW true (a := e) (by omega)
 refine Ev.bind (start_f (by omega)) ?_
 rw [hs1]
 refine Ev.bind ht1 (Ev.bind (end_f (by omega)) ?_)
 rw [he1]
 refine Ev.bind hb1 ?_
 have hp : Ev (fun k => net_places.f k 4 (N.length : Int) (net_All_3.q t b)) (P4 N F) := by
  unfold P4
  refine places_f 4 (q := fun _ => net_All_3.q t b) (by omega) (fun i hi => ?_)
  unfold net_All_3.q
  simp only [if_pos (show (0 : Int) ≤ (i : Int) by omega), if_pos (show (i : Int) < (t.length : Int) by omega), if_pos (show (i : Int) < (b.length : Int) by omega), rdT]
  have e1 : (t.getD i false = true ↔ road F s i) := by have := ht3 i; unfold T at this; exact this
  have e2 : (b.getD i false = true ↔ road F i e) := by have := hb3 i; unfold T at this; rw [road_back] at this; exact this
  have hv := v4_iff F (first N 1) (first N 2) i
  rw [hs1, he1] at hv
  rw [show (((s : Nat) : Int)).toNat = s from rfl, show (((e : Nat) : Int)).toNat = e from rfl, show ((i : Nat) : Int).toNat = i from rfl, ← e1, ← e2] at hv
  rw [hs1, he1]
  cases h1 : t.getD i false with
  | true =>
   simp only [if_true]
   cases h2 : b.getD i false with
   | true =>
    rw [h1, h2] at hv
    rw [show v4 F (s : Int) (e : Int) (i : Int) = false by cases hh : v4 F (s : Int) (e : Int) (i : Int) <;> simp_all]
    exact Ev.now _
   | false =>
    rw [h1, h2] at hv
    rw [hv.2 (by simp)]
    exact Ev.now _
  | false =>
   simp only [Bool.false_eq_true, if_false]
   rw [h1] at hv
   rw [hv.2 (by simp)]
   exact Ev.now _
 exact Ev.bind hp (Ev.now _)
theorem all_f {N : List S37} {F : List S53} (h : Ok N F) : Ev (fun k => net_All.f k N F) (allV N F) := by
 unfold net_All.f allV
 have hn := h.n
 have jt : Ev (fun k => net_All.j0 k true N F) [(⟨1, 0⟩ : S47)] := by
  refine Ev.step (fun k => by rw [net_All.j0]) ?_
  simp only [if_true]
  exact Ev.now _
 by_cases a : (N.length : Int) > 24
 ·simp only [if_pos a, if_pos (show big N F from .inl (by omega))]; exact jt
 simp only [if_neg a]
 by_cases b : (F.length : Int) > 40
 ·simp only [decide_eq_true b, if_pos (show big N F from .inr (by omega))]; exact jt
 simp only [decide_eq_false b, if_neg (show ¬ big N F by unfold big; omega)]
 refine Ev.step (fun k => by rw [net_All.j0]) ?_
 simp only [Bool.false_eq_true, if_false]
 have h1 : Ev (fun k => net_places.f k 1 (N.length : Int) (net_All_1.q k N F)) (P1 N) := by
  refine places_f 1 (q := fun k => net_All_1.q k N F) (by omega) (fun i hi => ?_)
  unfold net_All_1.q
  simp only [if_pos (show (0 : Int) ≤ (i : Int) by omega), if_pos (show (i : Int) < (N.length : Int) by omega)]
  exact Ev.bind (right_f (h.tn _ (rd37_mem (by omega) (by omega)))) (Ev.now _)
 refine Ev.bind h1 ?_
 by_cases c1 : (P1 N).length > 0
 ·simp only [if_pos (show ((P1 N).length : Int) > 0 by omega), if_pos c1]; exact Ev.now _
 simp only [if_neg (show ¬ ((P1 N).length : Int) > 0 by omega), if_neg c1]
 have h2 : Ev (fun k => net_places.f k 2 (F.length : Int) (net_All_2.q k N F)) (P2 N F) := by
  refine places_f 2 (q := fun k => net_All_2.q k N F) (by have := h.f; omega) (fun i hi => ?_)
  unfold net_All_2.q
  simp only [if_pos (show (0 : Int) ≤ (i : Int) by omega), if_pos (show (i : Int) < (F.length : Int) by omega)]
  exact Ev.bind (leads_f h.f (h.tf _ (rd53_mem (by omega) (by omega)))) (Ev.now _)
 refine Ev.bind h2 ?_
 by_cases c2 : (P2 N F).length > 0
 ·simp only [if_pos (show ((P2 N F).length : Int) > 0 by omega), if_pos c2]; exact Ev.now _
 simp only [if_neg (show ¬ ((P2 N F).length : Int) > 0 by omega), if_neg c2]
 have hW := within_of (nil_of c2)
 refine Ev.bind (third_f h hW) ?_
 by_cases c3 : (P3 N F).length > 0
 ·simp only [if_pos (show ((P3 N F).length : Int) > 0 by omega), if_pos c3]; exact Ev.now _
 simp only [if_neg (show ¬ ((P3 N F).length : Int) > 0 by omega), if_neg c3]
 exact p4_f h hW (nil_of c3)
def hdV : List S47 → Int × Int
 | [] => (0, 0)
 | x :: _ => (x.f0, x.f1)
theorem check05_f {N : List S37} {F : List S53} (h : Ok N F) : Ev (fun k => net_Check.f k N F) (hdV (allV N F)) := by
 unfold net_Check.f
 refine Ev.bind (all_f h) ?_
 cases allV N F with
 | nil => simp only [List.length_nil, show ¬ (((0 : Nat) : Int) > 0) by decide, if_false]; exact Ev.now _
 | cons x l =>
  simp only [List.length_cons, if_pos (show (((l.length + 1 : Nat) : Int) > 0) by omega), if_pos (show (0 : Int) < ((l.length + 1 : Nat) : Int) by omega)]
  exact Ev.now _
end Go.Proofs.YtdaeiicdpfghlaaDoor.NP
end
section
set_option linter.unusedVariables false
set_option linter.unusedSimpArgs false
namespace Go.Proofs.YtdaeiicdpfghlaaDoor.NP
open Go.RowKit Go.Proofs.YtdaeiicdpfghlaaDoor.R Go.Proofs.YtdaeiicdpfghlaaDoorW.PrintWords Go.Proofs.YtdaeiicdpfghlaaDoorW.PrintLast
set_option maxRecDepth 100000 in
theorem line_f : Ev (fun k => treenaillaw05_line.f k) true := Ev.of (fun k => treenaillaw05_line.mono k) (k := 100) (by kernel_rfl)
def tot (g : Int → Nat) : Nat → Int → Nat
 | 0, _ => 0
 | d + 1, i => g i + tot g d (i + 1)
theorem tot_add (g h : Int → Nat) : ∀ (d : Nat) (i : Int), tot (fun i => g i + h i) d i = tot g d i + tot h d i
 | 0, _ => rfl
 | d + 1, i => by rw [tot, tot, tot, tot_add g h d (i + 1)]; omega
theorem tot_zero : ∀ (d : Nat) (i : Int), tot (fun _ => 0) d i = 0
 | 0, _ => rfl
 | d + 1, i => by rw [tot, tot_zero d (i + 1)]
theorem tot_one (j : Int) : ∀ (d : Nat) (i : Int), tot (fun x => if j = x then 1 else 0) d i = if i ≤ j ∧ j < i + d then 1 else 0
 | 0, i => by rw [tot, if_neg (by omega)]
 | d + 1, i => by
  rw [tot, tot_one j d (i + 1)]
  by_cases h : j = i
  ·rw [if_pos h, if_neg (by omega), if_pos (by omega)]
  ·rw [if_neg h]
   by_cases h2 : i + 1 ≤ j ∧ j < i + 1 + d
   ·rw [if_pos h2, if_pos (by omega)]
   ·rw [if_neg h2, if_neg (by omega)]
theorem posI_count {α : Type} (key : α → Int) (n : Nat) : ∀ (l : List α) (s : Int), (∀ x ∈ l, 0 ≤ key x ∧ key x < n) → tot (fun i => (posI (fun x => key x == i) l s).length) n 0 = l.length
 | [], s, _ => tot_zero n 0
 | a :: l, s, h => by
  have ha := h a (by simp)
  have e : (fun i => (posI (fun x => key x == i) (a :: l) s).length) = fun i => (if key a = i then 1 else 0) + (posI (fun x => key x == i) l (s + 1)).length := by
   funext i
   rw [posI]
   by_cases hk : key a = i
   ·rw [if_pos (by simpa using hk), if_pos hk, List.length_cons]; omega
   ·rw [if_neg (by simpa using hk), if_neg hk]; omega
  rw [e, tot_add, tot_one, if_pos (by omega), posI_count key n l (s + 1) (fun x hx => h x (by simp [hx])), List.length_cons]
  omega
theorem tot_ins {N : List S37} {F : List S53} (hW : Within N F) : tot (fun i => (ins F i).length) N.length 0 = F.length := posI_count (fun f : S53 => f.f1) N.length F 0 (fun f hf => by have := hW f hf; omega)
theorem tot_outs {N : List S37} {F : List S53} (hW : Within N F) : tot (fun i => (outs F i).length) N.length 0 = F.length := posI_count (fun f : S53 => f.f0) N.length F 0 (fun f hf => by have := hW f hf; omega)
structure Right (N : List S37) (F : List S53) : Prop where
 w : Within N F
 s : 0 ≤ first N 1
 e : 0 ≤ first N 2
 l : ∀ i : Nat, i < N.length → lnk N F i = true
 r : ∀ i : Nat, i < N.length → road F (first N 1).toNat i ∧ road F i (first N 2).toNat
theorem hd_zero {N : List S37} {F : List S53} (h : (hdV (allV N F)).1 = 0) : allV N F = [] := by
 have rule : ∀ x ∈ allV N F, x.f0 ≥ 1 := by
  intro x hx
  unfold allV at hx
  split at hx
  ·simp only [List.mem_singleton] at hx; rw [hx]; decide
  split at hx
  ·have := plcI_rule _ _ _ _ x hx; omega
  split at hx
  ·have := plcI_rule _ _ _ _ x hx; omega
  split at hx
  ·unfold P3 at hx
   rcases List.mem_append.1 hx with hx | hx
   ·have := plcI_rule _ _ _ _ x hx; omega
   ·split at hx
    ·simp only [List.mem_singleton] at hx; rw [hx]; show (3 : Int) ≥ 1; decide
    ·simp at hx
  ·have := plcI_rule _ _ _ _ x hx; omega
 cases hc : allV N F with
 | nil => rfl
 | cons x l =>
  rw [hc] at h rule
  have := rule x (by simp)
  simp only [hdV] at h
  omega
theorem right_of {N : List S37} {F : List S53} (h : allV N F = []) : Right N F := by
 unfold allV at h
 split at h
 ·cases h
 split at h
 ·rename_i h1; rw [h] at h1; simp at h1
 split at h
 ·rename_i h1; rw [h] at h1; simp at h1
 rename_i h2
 have hW := within_of (nil_of h2)
 split at h
 ·rename_i h1; rw [h] at h1; simp at h1
 rename_i h3
 have h3 := nil_of h3
 obtain ⟨hs, he⟩ := lost_of h3
 refine ⟨hW, hs, he, fun i hi => ?_, fun i hi => ?_⟩
 ·unfold P3 at h3
  have := plcI_nil (List.append_eq_nil_iff.1 h3).1 (i : Int) (by omega) (by omega)
  unfold v3 at this
  cases hl : lnk N F i with
  | true => rfl
  | false => rw [hl] at this; simp at this
 ·have := plcI_nil (show plcI 4 (v4 F (first N 1) (first N 2)) N.length 0 = [] from h) (i : Int) (by omega) (by omega)
  have hv := v4_iff F (first N 1) (first N 2) i
  rw [this, show ((i : Nat) : Int).toNat = i from rfl] at hv
  exact Classical.not_not.1 (fun hn => absurd (hv.2 hn) (by decide))
end Go.Proofs.YtdaeiicdpfghlaaDoor.NP
end
set_option linter.unusedVariables false
set_option linter.unusedSimpArgs false
namespace Go.Proofs.YtdaeiicdpfghlaaDoor.Pure
open Go.RowKit Go.Proofs.YtdaeiicdpfghlaaDoor.R Go.Proofs.YtdaeiicdpfghlaaDoorW.PrintWords Go.Proofs.YtdaeiicdpfghlaaDoorW.PrintLast Go.Proofs.YtdaeiicdpfghlaaDoor.NP
theorem fin_facts {kd a b e : Int} {c : Bool} (ha : 0 ≤ a) (hb : 0 ≤ b) (h : fin kd a b e c = true) : ¬ (a > 1 ∧ b > 1) ∧ ¬ (a + b < 1) ∧ (a = 0 → kd = 1) ∧ (b = 0 → kd = 2) ∧ (a + b > 2 → kd = 5 ∨ kd = 6 ∨ kd = 7) := by
 unfold fin at h
 by_cases k1 : kd = 1
 ·rw [if_pos k1] at h; simp only [Bool.and_eq_true, decide_eq_true_eq] at h; omega
 rw [if_neg k1] at h
 by_cases k2 : kd = 2
 ·rw [if_pos k2] at h; simp only [Bool.and_eq_true, decide_eq_true_eq] at h; omega
 rw [if_neg k2] at h
 by_cases k7 : kd = 7
 ·rw [if_pos k7] at h; simp only [Bool.and_eq_true, decide_eq_true_eq] at h; omega
 rw [if_neg k7] at h
 by_cases k5 : kd = 5
 ·rw [if_pos k5] at h; simp only [Bool.and_eq_true, Bool.or_eq_true, decide_eq_true_eq] at h; omega
 rw [if_neg k5] at h
 by_cases k6 : kd = 6
 ·rw [if_pos k6] at h; simp only [Bool.and_eq_true, Bool.or_eq_true, decide_eq_true_eq] at h; omega
 rw [if_neg k6] at h
 simp only [Bool.and_eq_true, decide_eq_true_eq] at h
 omega
theorem sums_l0 {N : List S37} {F : List S53} (h : Ok N F) (hR : Right N F) : ∀ (d i : Nat) (p q : Int), i + d = N.length → 0 ≤ p → 0 ≤ q → p + (tot (fun i => (ins F i).length) d i : Nat) = (F.length : Int) → q + (tot (fun i => (outs F i).length) d i : Nat) = (F.length : Int) →
  Ev (fun k => treenaillaw05_NetSums.l0 k p q N (N.length : Int) (i : Int) N F) true
 | 0, i, p, q, hi, p0, q0, hp, hq => by
  refine Ev.step (fun k => by rw [treenaillaw05_NetSums.l0]) ?_
  simp only [tot] at hp hq
  simp only [if_neg (show ¬ (i : Int) < (N.length : Int) by omega), if_pos (show p = (F.length : Int) by omega), if_pos (show q = p by omega)]
  exact Ev.bind line_f (Ev.now _)
 | d + 1, i, p, q, hi, p0, q0, hp, hq => by
  have hn := h.n
  have hF := h.f
  refine Ev.step (fun k => by rw [treenaillaw05_NetSums.l0]) ?_
  simp only [if_pos (show (i : Int) < (N.length : Int) by omega), if_pos (show (0 : Int) ≤ (i : Int) by omega)]
  refine Ev.bind (ins_f h.f (i : Int)) (Ev.bind (outs_f h.f (i : Int)) ?_)
  rw [tot] at hp hq
  have hl := hR.l i (by omega)
  unfold lnk at hl
  obtain ⟨f1, f2, f3, f4, f5⟩ := fin_facts (by omega) (by omega) hl
  have il := ins_len F (i : Int)
  have ol := outs_len F (i : Int)
  have next : Ev (fun k => treenaillaw05_NetSums.j2 k (wrap64 (p + ((ins F (i : Int)).length : Int))) (wrap64 (q + ((outs F (i : Int)).length : Int))) N (N.length : Int) (i : Int) false N F) true := by
   refine Ev.step (fun k => by rw [treenaillaw05_NetSums.j2]) ?_
   simp only [Bool.false_eq_true, if_false, wrapI (i := i) (by omega), wrapS (x := p + ((ins F (i : Int)).length : Int)) (by omega) (by omega), wrapS (x := q + ((outs F (i : Int)).length : Int)) (by omega) (by omega)]
   refine sums_l0 h hR d (i + 1) _ _ (by omega) (by omega) (by omega) ?_ ?_
   ·rw [show ((i : Nat) : Int) + 1 = ((i + 1 : Nat) : Int) by omega] at hp; omega
   ·rw [show ((i : Nat) : Int) + 1 = ((i + 1 : Nat) : Int) by omega] at hq; omega
  have j1 : ∀ b : Bool, (b = false → ¬ (((ins F (i : Int)).length : Int) + ((outs F (i : Int)).length : Int) > 2)) → Ev (fun k => treenaillaw05_NetSums.j1 k (wrap64 (p + ((ins F (i : Int)).length : Int))) (wrap64 (q + ((outs F (i : Int)).length : Int))) ((ins F (i : Int)).length : Int) ((outs F (i : Int)).length : Int) b N (N.length : Int) (i : Int) N F (rd_T37 N i).f0 (rd_T37 N i).f1 (rd_T37 N i).f2.f0 (rd_T37 N i).f2.f1 (rd_T37 N i).f2.f2) true := by
   intro b hb
   refine Ev.step (fun k => by rw [treenaillaw05_NetSums.j1]) ?_
   simp only [wrapS (x := ((ins F (i : Int)).length : Int) + ((outs F (i : Int)).length : Int)) (by omega) (by omega), if_neg f2]
   have rest : Ev (fun k => if ((ins F (i : Int)).length : Int) = 0 then (if (rd_T37 N i).f0 = 1 then (if ((outs F (i : Int)).length : Int) = 0 then treenaillaw05_NetSums.j2 k (wrap64 (p + ((ins F (i : Int)).length : Int))) (wrap64 (q + ((outs F (i : Int)).length : Int))) N (N.length : Int) (i : Int) ((rd_T37 N i).f0 != 2) N F else treenaillaw05_NetSums.j2 k (wrap64 (p + ((ins F (i : Int)).length : Int))) (wrap64 (q + ((outs F (i : Int)).length : Int))) N (N.length : Int) (i : Int) false N F) else treenaillaw05_NetSums.j2 k (wrap64 (p + ((ins F (i : Int)).length : Int))) (wrap64 (q + ((outs F (i : Int)).length : Int))) N (N.length : Int) (i : Int) true N F) else (if ((outs F (i : Int)).length : Int) = 0 then treenaillaw05_NetSums.j2 k (wrap64 (p + ((ins F (i : Int)).length : Int))) (wrap64 (q + ((outs F (i : Int)).length : Int))) N (N.length : Int) (i : Int) ((rd_T37 N i).f0 != 2) N F else treenaillaw05_NetSums.j2 k (wrap64 (p + ((ins F (i : Int)).length : Int))) (wrap64 (q + ((outs F (i : Int)).length : Int))) N (N.length : Int) (i : Int) false N F)) true := by
    have hz : ((outs F (i : Int)).length : Int) = 0 → ((rd_T37 N i).f0 != 2) = false := fun h0 => by rw [f4 h0]; rfl
    by_cases a0 : ((ins F (i : Int)).length : Int) = 0
    ·simp only [if_pos a0, if_pos (f3 a0)]
     by_cases b0 : ((outs F (i : Int)).length : Int) = 0
     ·simp only [if_pos b0, hz b0]; exact next
     ·simp only [if_neg b0]; exact next
    ·simp only [if_neg a0]
     by_cases b0 : ((outs F (i : Int)).length : Int) = 0
     ·simp only [if_pos b0, hz b0]; exact next
     ·simp only [if_neg b0]; exact next
   cases b with
   | true =>
    simp only [if_true]
    by_cases a1 : ((ins F (i : Int)).length : Int) > 1
    ·simp only [if_pos a1, if_neg (show ¬ ((outs F (i : Int)).length : Int) > 1 by omega)]; exact rest
    ·simp only [if_neg a1]; exact rest
   | false =>
    simp only [Bool.false_eq_true, if_false, if_neg (hb rfl)]
    by_cases a1 : ((ins F (i : Int)).length : Int) > 1
    ·simp only [if_pos a1, if_neg (show ¬ ((outs F (i : Int)).length : Int) > 1 by omega)]; exact rest
    ·simp only [if_neg a1]; exact rest
  by_cases k5 : (rd_T37 N i).f0 = 5
  ·simp only [if_pos k5]
   exact j1 true (fun h => absurd h (by decide))
  simp only [if_neg k5]
  by_cases k6 : (rd_T37 N i).f0 = 6
  ·simp only [if_pos k6]
   exact j1 true (fun h => absurd h (by decide))
  simp only [if_neg k6]
  refine j1 _ (fun hb hg => ?_)
  have : ¬ (rd_T37 N i).f0 = 7 := beq_eq_false_iff_ne.mp hb
  have := f5 hg
  omega
theorem NetSums : ∀ (x0 : S25), ok_T25 x0 → ∃ k, treenaillaw05_NetSums.f k x0.f0 x0.f1 = some true := by
 intro x0 _
 have h : Ev (fun k => treenaillaw05_NetSums.f k x0.f0 x0.f1) true := by
  unfold treenaillaw05_NetSums.f
  obtain ⟨b, hb, hok⟩ := large_f x0.f0 x0.f1
  refine Ev.bind hb ?_
  cases b with
  | true => simp only [if_true]; exact Ev.bind line_f (Ev.now _)
  | false =>
   simp only [Bool.false_eq_true, if_false]
   refine Ev.bind (check05_f (hok rfl)) ?_
   by_cases hz : (hdV (allV x0.f0 x0.f1)).1 = 0
   ·simp only [if_pos hz]
    have hR := right_of (hd_zero hz)
    have e1 := tot_ins hR.w
    have e2 := tot_outs hR.w
    exact sums_l0 (hok rfl) hR x0.f0.length 0 0 0 (by omega) (by omega) (by omega) (by rw [show ((0 : Nat) : Int) = 0 from rfl, e1]; omega) (by rw [show ((0 : Nat) : Int) = 0 from rfl, e2]; omega)
   ·simp only [if_neg hz]
    exact Ev.bind line_f (Ev.now _)
 exact h.rounds
end Go.Proofs.YtdaeiicdpfghlaaDoor.Pure
