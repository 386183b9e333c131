/- A copy is the same: the pure statement. -/
import Derived.Test.YtdaeiicdpfghlaaDoorV0
import Derived.Test.YtdaeiicdpfghlaaDoorSx0
import Derived.Test.YtdaeiicdpfghlaaDoorSx1
import Derived.Test.YtdaeiicdpfghlaaDoorSx11
import Derived.Test.YtdaeiicdpfghlaaDoorSx26
import Derived.Test.YtdaeiicdpfghlaaDoorSx27
import Derived.Test.YtdaeiicdpfghlaaDoorSx28
import Derived.Test.YtdaeiicdpfghlaaDoorSx29
import Derived.Test.YtdaeiicdpfghlaaDoorSRk
set_option linter.unusedVariables false
set_option linter.unusedSimpArgs false
section
set_option linter.unusedVariables false
set_option linter.unusedSimpArgs false
namespace Go.Proofs.YtdaeiicdpfghlaaDoor.NP
open Go.RowKit Go.Proofs.YtdaeiicdpfghlaaDoor.R Go.Proofs.YtdaeiicdpfghlaaDoorW.PrintWords Go.Proofs.YtdaeiicdpfghlaaDoorW.PrintLast
theorem wrapS {x : Int} (h0 : -9223372036854775808 ≤ x) (h1 : x ≤ 9223372036854775807) : wrap64 x = x := by unfold wrap64; omega
theorem wrapI {i : Nat} (h : i ≤ 1000000000) : wrap64 ((i : Int) + 1) = ((i + 1 : Nat) : Int) := by rw [wrapS (by omega) (by omega)]; omega
theorem rd35 {l : List S35} {i : Nat} (h : i < l.length) : rd_T35 l (i : Int) = l[i] := by
 unfold rd_T35
 rw [show (i : Int).toNat = i from rfl, List.getD_eq_getElem?_getD, List.getElem?_eq_getElem h]
 rfl
theorem rd37 {l : List S37} {i : Nat} (h : i < l.length) : rd_T37 l (i : Int) = l[i] := by
 unfold rd_T37
 rw [show (i : Int).toNat = i from rfl, List.getD_eq_getElem?_getD, List.getElem?_eq_getElem h]
 rfl
theorem rd53 {l : List S53} {i : Nat} (h : i < l.length) : rd_T53 l (i : Int) = l[i] := by
 unfold rd_T53
 rw [show (i : Int).toNat = i from rfl, List.getD_eq_getElem?_getD, List.getElem?_eq_getElem h]
 rfl
theorem drop_at {α : Type} {l : List α} {i : Nat} (h : i < l.length) : l.drop i = l[i] :: l.drop (i + 1) := List.drop_eq_getElem_cons h
theorem drop_end {α : Type} {l : List α} {i : Nat} (h : l.length ≤ i) : l.drop i = [] := List.drop_eq_nil_of_le h
def sm : Nat → S35 → Prop
 | 0, _ => False
 | d + 1, t => t.f2.length ≤ 50 ∧ ∀ x ∈ t.f2, sm d x
end Go.Proofs.YtdaeiicdpfghlaaDoor.NP
end
section
set_option linter.unusedVariables false
set_option linter.unusedSimpArgs false
namespace Go.Proofs.YtdaeiicdpfghlaaDoor.NP
open Go.RowKit Go.Proofs.YtdaeiicdpfghlaaDoor.R Go.Proofs.YtdaeiicdpfghlaaDoorW.PrintWords Go.Proofs.YtdaeiicdpfghlaaDoorW.PrintLast
theorem ldeep_l0 {d : Nat} {a : Int} (ha : 0 ≤ a) (hb : a ≤ 60) (l : List S35) (hl : l.length ≤ 50)
  (ih : ∀ (t : S35) (s : Int), 0 ≤ s → s ≤ 3000 → ∃ b s', Ev (fun k => treenaillaw05_deep.f k t.f0 t.f1 t.f2 s (a + 1)) (b, s') ∧ (b = false → 0 ≤ s' ∧ s' ≤ 3000 ∧ sm d t)) :
  ∀ (n i : Nat) (s : Int), i + n = l.length → 0 ≤ s → s ≤ 3000 → ∃ b s', Ev (fun k => treenaillaw05_deep.l0 k a l (l.length : Int) (i : Int) s) (b, s') ∧ (b = false → 0 ≤ s' ∧ s' ≤ 3000 ∧ ∀ x ∈ l.drop i, sm d x)
 | 0, i, s, hi, h0, h1 => by
  refine ⟨false, s, Ev.step (fun k => by rw [treenaillaw05_deep.l0]) ?_, fun _ => ⟨h0, h1, by rw [drop_end (by omega)]; simp⟩⟩
  simp only [if_neg (show ¬ (i : Int) < (l.length : Int) by omega)]
  exact Ev.now _
 | n + 1, i, s, hi, h0, h1 => by
  have hlt : i < l.length := by omega
  obtain ⟨b, s', he, hs⟩ := ih l[i] s h0 h1
  cases b with
  | true =>
   refine ⟨true, s', Ev.step (fun k => by rw [treenaillaw05_deep.l0]) ?_, fun h => absurd h (by decide)⟩
   simp only [if_pos (show (i : Int) < (l.length : Int) by omega), if_pos (show (0 : Int) ≤ (i : Int) by omega), rd35 hlt, wrapS (x := a + 1) (by omega) (by omega)]
   refine Ev.bind he ?_
   simp only [if_true]
   exact Ev.now _
  | false =>
   obtain ⟨g0, g1, g2⟩ := hs rfl
   obtain ⟨b, s2, he2, hs2⟩ := ldeep_l0 ha hb l hl ih n (i + 1) s' (by omega) g0 g1
   refine ⟨b, s2, Ev.step (fun k => by rw [treenaillaw05_deep.l0]) ?_, fun h => ?_⟩
   ·simp only [if_pos (show (i : Int) < (l.length : Int) by omega), if_pos (show (0 : Int) ≤ (i : Int) by omega), rd35 hlt, wrapS (x := a + 1) (by omega) (by omega), wrapI (i := i) (by omega)]
    refine Ev.bind he ?_
    simp only [Bool.false_eq_true, if_false]
    exact he2
   ·obtain ⟨q0, q1, q2⟩ := hs2 h
    refine ⟨q0, q1, ?_⟩
    rw [drop_at hlt]
    intro x hx
    rcases List.mem_cons.1 hx with rfl | hx
    ·exact g2
    ·exact q2 x hx
theorem ldeep_f : ∀ (d : Nat) (a : Int), 0 ≤ a → a + d = 61 → ∀ (t : S35) (s : Int), 0 ≤ s → s ≤ 3000 → ∃ b s', Ev (fun k => treenaillaw05_deep.f k t.f0 t.f1 t.f2 s a) (b, s') ∧ (b = false → 0 ≤ s' ∧ s' ≤ 3000 ∧ sm d t) := by
 intro d
 induction d with
 | zero =>
  intro a ha hd t s h0 h1
  refine ⟨true, s - 1, Ev.step (fun k => by rw [treenaillaw05_deep.f]) ?_, fun h => absurd h (by decide)⟩
  simp only [wrapS (x := s - 1) (by omega) (by omega), if_pos (show a > 60 by omega)]
  have : Ev (fun k => treenaillaw05_deep.j0 k a true (s - 1) t.f0 t.f1 t.f2) (true, s - 1) := by
   refine Ev.step (fun k => by rw [treenaillaw05_deep.j0]) ?_
   simp only [if_true]
   exact Ev.now _
  by_cases h : s - 1 < 0
  ·simp only [if_pos h]; exact this
  ·simp only [if_neg h]; exact this
 | succ d ih =>
  intro a ha hd t s h0 h1
  have jt : Ev (fun k => treenaillaw05_deep.j0 k a true (s - 1) t.f0 t.f1 t.f2) (true, s - 1) := by
   refine Ev.step (fun k => by rw [treenaillaw05_deep.j0]) ?_
   simp only [if_true]
   exact Ev.now _
  by_cases h : s - 1 < 0
  ·refine ⟨true, s - 1, Ev.step (fun k => by rw [treenaillaw05_deep.f]) ?_, fun h => absurd h (by decide)⟩
   simp only [wrapS (x := s - 1) (by omega) (by omega), if_pos h]
   exact jt
  by_cases hl : (t.f2.length : Int) > 50
  ·refine ⟨true, s - 1, Ev.step (fun k => by rw [treenaillaw05_deep.f]) ?_, fun h => absurd h (by decide)⟩
   simp only [wrapS (x := s - 1) (by omega) (by omega), if_neg h, if_neg (show ¬ a > 60 by omega), decide_eq_true hl]
   exact jt
  obtain ⟨b, s', he, hs⟩ := ldeep_l0 (d := d) ha (by omega) t.f2 (by omega) (fun t s h0 h1 => ih (a + 1) (by omega) (by omega) t s h0 h1) t.f2.length 0 (s - 1) (by omega) (by omega) (by omega)
  refine ⟨b, s', Ev.step (fun k => by rw [treenaillaw05_deep.f]) ?_, fun hb => ?_⟩
  ·simp only [wrapS (x := s - 1) (by omega) (by omega), if_neg h, if_neg (show ¬ a > 60 by omega), decide_eq_false hl]
   refine Ev.step (fun k => by rw [treenaillaw05_deep.j0]) ?_
   simp only [Bool.false_eq_true, if_false]
   exact he
  ·obtain ⟨q0, q1, q2⟩ := hs hb
   rw [List.drop_zero] at q2
   exact ⟨q0, q1, by omega, q2⟩
structure Ok (N : List S37) (F : List S53) : Prop where
 n : N.length ≤ 60
 f : F.length ≤ 100
 tn : ∀ x ∈ N, sm 60 x.f2
 tf : ∀ x ∈ F, sm 60 x.f3
theorem large_l1 (F : List S53) (hf : F.length ≤ 100) : ∀ (n i : Nat) (s : Int), i + n = F.length → 0 ≤ s → s ≤ 3000 → ∃ b, Ev (fun k => treenaillaw05_large.l1 k F (F.length : Int) (i : Int) s) b ∧ (b = false → ∀ x ∈ F.drop i, sm 60 x.f3)
 | 0, i, s, hi, h0, h1 => by
  refine ⟨false, Ev.step (fun k => by rw [treenaillaw05_large.l1]) ?_, fun _ => by rw [drop_end (by omega)]; simp⟩
  simp only [if_neg (show ¬ (i : Int) < (F.length : Int) by omega)]
  exact Ev.now _
 | n + 1, i, s, hi, h0, h1 => by
  have hlt : i < F.length := by omega
  obtain ⟨b, s', he, hs⟩ := ldeep_f 60 1 (by omega) (by omega) F[i].f3 s h0 h1
  cases b with
  | true =>
   refine ⟨true, Ev.step (fun k => by rw [treenaillaw05_large.l1]) ?_, fun h => absurd h (by decide)⟩
   simp only [if_pos (show (i : Int) < (F.length : Int) by omega), if_pos (show (0 : Int) ≤ (i : Int) by omega), rd53 hlt]
   refine Ev.bind he ?_
   simp only [if_true]
   exact Ev.now _
  | false =>
   obtain ⟨g0, g1, g2⟩ := hs rfl
   obtain ⟨b, he2, hs2⟩ := large_l1 F hf n (i + 1) s' (by omega) g0 g1
   refine ⟨b, Ev.step (fun k => by rw [treenaillaw05_large.l1]) ?_, fun h => ?_⟩
   ·simp only [if_pos (show (i : Int) < (F.length : Int) by omega), if_pos (show (0 : Int) ≤ (i : Int) by omega), rd53 hlt, wrapI (i := i) (by omega)]
    refine Ev.bind he ?_
    simp only [Bool.false_eq_true, if_false]
    exact he2
   ·rw [drop_at hlt]
    intro x hx
    rcases List.mem_cons.1 hx with rfl | hx
    ·exact g2
    ·exact hs2 h x hx
theorem large_l0 (N : List S37) (F : List S53) (hn : N.length ≤ 60) (hf : F.length ≤ 100) : ∀ (n i : Nat) (s : Int), i + n = N.length → 0 ≤ s → s ≤ 3000 → ∃ b, Ev (fun k => treenaillaw05_large.l0 k N (N.length : Int) (i : Int) N F s) b ∧ (b = false → (∀ x ∈ N.drop i, sm 60 x.f2) ∧ ∀ x ∈ F, sm 60 x.f3)
 | 0, i, s, hi, h0, h1 => by
  obtain ⟨b, he, hb⟩ := large_l1 F hf F.length 0 s (by omega) h0 h1
  refine ⟨b, Ev.step (fun k => by rw [treenaillaw05_large.l0]) ?_, fun h => ⟨by rw [drop_end (by omega)]; simp, by simpa using hb h⟩⟩
  simp only [if_neg (show ¬ (i : Int) < (N.length : Int) by omega)]
  exact he
 | n + 1, i, s, hi, h0, h1 => by
  have hlt : i < N.length := by omega
  obtain ⟨b, s', he, hs⟩ := ldeep_f 60 1 (by omega) (by omega) N[i].f2 s h0 h1
  cases b with
  | true =>
   refine ⟨true, Ev.step (fun k => by rw [treenaillaw05_large.l0]) ?_, fun h => absurd h (by decide)⟩
   simp only [if_pos (show (i : Int) < (N.length : Int) by omega), if_pos (show (0 : Int) ≤ (i : Int) by omega), rd37 hlt]
   refine Ev.bind he ?_
   simp only [if_true]
   exact Ev.now _
  | false =>
   obtain ⟨g0, g1, g2⟩ := hs rfl
   obtain ⟨b, he2, hs2⟩ := large_l0 N F hn hf n (i + 1) s' (by omega) g0 g1
   refine ⟨b, Ev.step (fun k => by rw [treenaillaw05_large.l0]) ?_, fun h => ⟨?_, (hs2 h).2⟩⟩
   ·simp only [if_pos (show (i : Int) < (N.length : Int) by omega), if_pos (show (0 : Int) ≤ (i : Int) by omega), rd37 hlt, wrapI (i := i) (by omega)]
    refine Ev.bind he ?_
    simp only [Bool.false_eq_true, if_false]
    exact he2
   ·rw [drop_at hlt]
    intro x hx
    rcases List.mem_cons.1 hx with rfl | hx
    ·exact g2
    ·exact (hs2 h).1 x hx
theorem large_f (N : List S37) (F : List S53) : ∃ b, Ev (fun k => treenaillaw05_large.f k N F) b ∧ (b = false → Ok N F) := by
 have jt : Ev (fun k => treenaillaw05_large.j0 k true N F) true := by
  refine Ev.step (fun k => by rw [treenaillaw05_large.j0]) ?_
  simp only [if_true]
  exact Ev.now _
 unfold treenaillaw05_large.f
 by_cases hn : (N.length : Int) > 60
 ·simp only [if_pos hn]
  exact ⟨true, jt, fun h => absurd h (by decide)⟩
 simp only [if_neg hn]
 by_cases hf : (F.length : Int) > 100
 ·simp only [decide_eq_true hf]
  exact ⟨true, jt, fun h => absurd h (by decide)⟩
 simp only [decide_eq_false hf]
 obtain ⟨b, he, hb⟩ := large_l0 N F (by omega) (by omega) N.length 0 3000 (by omega) (by omega) (by omega)
 refine ⟨b, Ev.step (fun k => by rw [treenaillaw05_large.j0]) ?_, fun h => ?_⟩
 ·simp only [Bool.false_eq_true, if_false]; exact he
 ·have := hb h
  rw [List.drop_zero] at this
  exact ⟨by omega, by omega, this.1, this.2⟩
end Go.Proofs.YtdaeiicdpfghlaaDoor.NP
end
section
set_option linter.unusedVariables false
set_option linter.unusedSimpArgs false
namespace Go.Proofs.YtdaeiicdpfghlaaDoor.NP
open Go.RowKit Go.Proofs.YtdaeiicdpfghlaaDoor.R Go.Proofs.YtdaeiicdpfghlaaDoorW.PrintWords Go.Proofs.YtdaeiicdpfghlaaDoorW.PrintLast
def T (t : List Bool) (i : Nat) : Prop := t.getD i false = true
instance (t : List Bool) (i : Nat) : Decidable (T t i) := by unfold T; infer_instance
end Go.Proofs.YtdaeiicdpfghlaaDoor.NP
end
section
set_option linter.unusedVariables false
set_option linter.unusedSimpArgs false
namespace Go.Proofs.YtdaeiicdpfghlaaDoor.NP
open Go.RowKit Go.Proofs.YtdaeiicdpfghlaaDoor.R Go.Proofs.YtdaeiicdpfghlaaDoorW.PrintWords Go.Proofs.YtdaeiicdpfghlaaDoorW.PrintLast
def big (N : List S37) (F : List S53) : Prop := N.length > 24 ∨ F.length > 40
instance (N : List S37) (F : List S53) : Decidable (big N F) := by unfold big; infer_instance
end Go.Proofs.YtdaeiicdpfghlaaDoor.NP
end
section
set_option linter.unusedVariables false
set_option linter.unusedSimpArgs false
namespace Go.Proofs.YtdaeiicdpfghlaaDoor.NP
open Go.RowKit Go.Proofs.YtdaeiicdpfghlaaDoor.R Go.Proofs.YtdaeiicdpfghlaaDoorW.PrintWords Go.Proofs.YtdaeiicdpfghlaaDoorW.PrintLast
set_option maxRecDepth 100000 in
theorem line_f : Ev (fun k => treenaillaw05_line.f k) true := Ev.of (fun k => treenaillaw05_line.mono k) (k := 100) (by kernel_rfl)
end Go.Proofs.YtdaeiicdpfghlaaDoor.NP
end
set_option linter.unusedVariables false
set_option linter.unusedSimpArgs false
namespace Go.Proofs.YtdaeiicdpfghlaaDoor.Pure
open Go.RowKit Go.Proofs.YtdaeiicdpfghlaaDoor.R Go.Proofs.YtdaeiicdpfghlaaDoorW.PrintWords Go.Proofs.YtdaeiicdpfghlaaDoorW.PrintLast Go.Proofs.YtdaeiicdpfghlaaDoor.NP
theorem take_more {α : Type} {l : List α} {i : Nat} (h : i < l.length) : l.take i ++ [l[i]] = l.take (i + 1) := by rw [List.take_add_one, List.getElem?_eq_getElem h]; rfl
theorem eta35 (x : S35) : (⟨x.f0, x.f1, x.f2⟩ : S35) = x := by cases x; rfl
theorem eta37 (x : S37) : (⟨x.f0, x.f1, (⟨x.f2.f0, x.f2.f1, x.f2.f2⟩ : S35)⟩ : S37) = x := by rw [eta35]
theorem eta53 (x : S53) : (⟨x.f0, x.f1, x.f2, (⟨x.f3.f0, x.f3.f1, x.f3.f2⟩ : S35)⟩ : S53) = x := by rw [eta35]
theorem copied_l0 (a b : Int) (l : List S35) (hl : l.length ≤ 1000) (ih : ∀ t ∈ l, Ev (fun k => net_copied.f k t.f0 t.f1 t.f2) (t.f0, t.f1, t.f2)) : ∀ (n i : Nat), i + n = l.length → Ev (fun k => net_copied.l0 k l (l.length : Int) (i : Int) a b (l.take i)) (a, b, l)
 | 0, i, hi => by
  refine Ev.step (fun k => by rw [net_copied.l0]) ?_
  simp only [if_neg (show ¬ (i : Int) < (l.length : Int) by omega)]
  rw [List.take_of_length_le (by omega)]
  exact Ev.now _
 | n + 1, i, hi => by
  have hlt : i < l.length := by omega
  refine Ev.step (fun k => by rw [net_copied.l0]) ?_
  simp only [if_pos (show (i : Int) < (l.length : Int) by omega), if_pos (show (0 : Int) ≤ (i : Int) by omega), rd35 hlt, wrapI (i := i) (by omega)]
  refine Ev.bind (ih _ (List.getElem_mem hlt)) ?_
  simp only [if_pos (show (l.take i).length < 3518437208883 by rw [List.length_take]; omega)]
  rw [eta35, take_more hlt]
  exact copied_l0 a b l hl ih n (i + 1) (by omega)
theorem copied_f : ∀ (d : Nat) (t : S35), sm d t → Ev (fun k => net_copied.f k t.f0 t.f1 t.f2) (t.f0, t.f1, t.f2)
 | 0, t, h => h.elim
 | d + 1, t, h => by
  refine Ev.step (fun k => by rw [net_copied.f]) ?_
  exact copied_l0 t.f0 t.f1 t.f2 (by have := h.1; omega) (fun x hx => copied_f d x (h.2 x hx)) t.f2.length 0 (by omega)
theorem copy_l1 (N : List S37) (F : List S53) (hf : F.length ≤ 1000) (h : ∀ x ∈ F, sm 60 x.f3) : ∀ (n i : Nat), i + n = F.length → Ev (fun k => net_Copy.l1 k F (F.length : Int) (i : Int) N (F.take i)) (N, F)
 | 0, i, hi => by
  refine Ev.step (fun k => by rw [net_Copy.l1]) ?_
  simp only [if_neg (show ¬ (i : Int) < (F.length : Int) by omega)]
  rw [List.take_of_length_le (by omega)]
  exact Ev.now _
 | n + 1, i, hi => by
  have hlt : i < F.length := by omega
  refine Ev.step (fun k => by rw [net_Copy.l1]) ?_
  simp only [if_pos (show (i : Int) < (F.length : Int) by omega), if_pos (show (0 : Int) ≤ (i : Int) by omega), rd53 hlt, wrapI (i := i) (by omega)]
  refine Ev.bind (copied_f 60 _ (h _ (List.getElem_mem hlt))) ?_
  simp only [if_pos (show (F.take i).length < 2199023255552 by rw [List.length_take]; omega)]
  rw [eta53, take_more hlt]
  exact copy_l1 N F hf h n (i + 1) (by omega)
theorem copy_l0 (N : List S37) (F : List S53) (hn : N.length ≤ 1000) (hf : F.length ≤ 1000) (h1 : ∀ x ∈ N, sm 60 x.f2) (h2 : ∀ x ∈ F, sm 60 x.f3) : ∀ (n i : Nat), i + n = N.length → Ev (fun k => net_Copy.l0 k N (N.length : Int) (i : Int) N F (N.take i)) (N, F)
 | 0, i, hi => by
  refine Ev.step (fun k => by rw [net_Copy.l0]) ?_
  simp only [if_neg (show ¬ (i : Int) < (N.length : Int) by omega)]
  rw [List.take_of_length_le (by omega)]
  exact copy_l1 N F hf h2 F.length 0 (by omega)
 | n + 1, i, hi => by
  have hlt : i < N.length := by omega
  refine Ev.step (fun k => by rw [net_Copy.l0]) ?_
  simp only [if_pos (show (i : Int) < (N.length : Int) by omega), if_pos (show (0 : Int) ≤ (i : Int) by omega), rd37 hlt, wrapI (i := i) (by omega)]
  refine Ev.bind (copied_f 60 _ (h1 _ (List.getElem_mem hlt))) ?_
  simp only [if_pos (show (N.take i).length < 2513169434916 by rw [List.length_take]; omega)]
  rw [eta37, take_more hlt]
  exact copy_l0 N F hn hf h1 h2 n (i + 1) (by omega)
theorem copy_f {N : List S37} {F : List S53} (h : Ok N F) : Ev (fun k => net_Copy.f k N F) (N, F) := by
 have := h.n
 have := h.f
 exact copy_l0 N F (by omega) (by omega) h.tn h.tf N.length 0 (by omega)
theorem pterm_l0 (a b : Int) (l : List S35) (hl : l.length ≤ 1000) (ih : ∀ t ∈ l, Ev (fun k => treenailplain_Term.f k t.f0 t.f1 t.f2 t.f0 t.f1 t.f2) true) : ∀ (n i : Nat), i + n = l.length → Ev (fun k => treenailplain_Term.l0 k (l.length : Int) (i : Int) a b l a b l) true
 | 0, i, hi => by
  refine Ev.step (fun k => by rw [treenailplain_Term.l0]) ?_
  simp only [if_neg (show ¬ (i : Int) < (l.length : Int) by omega)]
  exact Ev.now _
 | n + 1, i, hi => by
  have hlt : i < l.length := by omega
  refine Ev.step (fun k => by rw [treenailplain_Term.l0]) ?_
  simp only [if_pos (show (i : Int) < (l.length : Int) by omega), if_pos (show (0 : Int) ≤ (i : Int) by omega), rd35 hlt, wrapI (i := i) (by omega)]
  refine Ev.bind (ih _ (List.getElem_mem hlt)) ?_
  simp only [if_true]
  exact pterm_l0 a b l hl ih n (i + 1) (by omega)
theorem pterm_f : ∀ (d : Nat) (t : S35), sm d t → Ev (fun k => treenailplain_Term.f k t.f0 t.f1 t.f2 t.f0 t.f1 t.f2) true
 | 0, t, h => h.elim
 | d + 1, t, h => by
  refine Ev.step (fun k => by rw [treenailplain_Term.f]) ?_
  simp only [if_true, bne_self_eq_false]
  refine Ev.step (fun k => by rw [treenailplain_Term.j0]) ?_
  simp only [Bool.false_eq_true, if_false]
  exact pterm_l0 t.f0 t.f1 t.f2 (by have := h.1; omega) (fun x hx => pterm_f d x (h.2 x hx)) t.f2.length 0 (by omega)
theorem pnet_l1 (N : List S37) (F : List S53) (hf : F.length ≤ 1000) (h : ∀ x ∈ F, sm 60 x.f3) : ∀ (n i : Nat), i + n = F.length → Ev (fun k => treenailplain_Net.l1 k (F.length : Int) (i : Int) N F N F) true
 | 0, i, hi => by
  refine Ev.step (fun k => by rw [treenailplain_Net.l1]) ?_
  simp only [if_neg (show ¬ (i : Int) < (F.length : Int) by omega)]
  exact Ev.now _
 | n + 1, i, hi => by
  have hlt : i < F.length := by omega
  refine Ev.step (fun k => by rw [treenailplain_Net.l1]) ?_
  simp only [if_pos (show (i : Int) < (F.length : Int) by omega), if_pos (show (0 : Int) ≤ (i : Int) by omega), rd53 hlt, wrapI (i := i) (by omega), if_true, bne_self_eq_false, Bool.false_eq_true, if_false]
  refine Ev.bind (pterm_f 60 _ (h _ (List.getElem_mem hlt))) ?_
  simp only [if_true]
  exact pnet_l1 N F hf h n (i + 1) (by omega)
theorem pnet_l0 (N : List S37) (F : List S53) (hn : N.length ≤ 1000) (hf : F.length ≤ 1000) (h1 : ∀ x ∈ N, sm 60 x.f2) (h2 : ∀ x ∈ F, sm 60 x.f3) : ∀ (n i : Nat), i + n = N.length → Ev (fun k => treenailplain_Net.l0 k (N.length : Int) (i : Int) N F N F) true
 | 0, i, hi => by
  refine Ev.step (fun k => by rw [treenailplain_Net.l0]) ?_
  simp only [if_neg (show ¬ (i : Int) < (N.length : Int) by omega)]
  exact pnet_l1 N F hf h2 F.length 0 (by omega)
 | n + 1, i, hi => by
  have hlt : i < N.length := by omega
  refine Ev.step (fun k => by rw [treenailplain_Net.l0]) ?_
  simp only [if_pos (show (i : Int) < (N.length : Int) by omega), if_pos (show (0 : Int) ≤ (i : Int) by omega), rd37 hlt, wrapI (i := i) (by omega), if_true]
  refine Ev.bind (pterm_f 60 _ (h1 _ (List.getElem_mem hlt))) ?_
  simp only [if_true]
  exact pnet_l0 N F hn hf h1 h2 n (i + 1) (by omega)
theorem pnet_f {N : List S37} {F : List S53} (h : Ok N F) : Ev (fun k => treenailplain_Net.f k N F N F) true := by
 have := h.n
 have := h.f
 unfold treenailplain_Net.f
 simp only [if_true, bne_self_eq_false]
 refine Ev.step (fun k => by rw [treenailplain_Net.j0]) ?_
 simp only [Bool.false_eq_true, if_false]
 exact pnet_l0 N F (by omega) (by omega) h.tn h.tf N.length 0 (by omega)
theorem sm_len {t : S35} (h : sm 60 t) : t.f2.length < 1000000 := by have := h.1; omega
theorem cpOk_of {N : List S37} {F : List S53} (h : Ok N F) : cpOk N F = true := by
 have h1 := h.n
 have h2 := h.f
 unfold cpOk
 simp only [Bool.and_eq_true, decide_eq_true_eq, List.all_eq_true]
 exact ⟨⟨⟨by omega, by omega⟩, fun x hx => sm_len (h.tn x hx)⟩, fun x hx => sm_len (h.tf x hx)⟩
theorem NetCopies : ∀ (x0 : S25), ok_T25 x0 → ∃ k, treenaillaw05_NetCopies.f k x0.f0 x0.f1 = some true := by
 intro x0 _
 have h : Ev (fun k => treenaillaw05_NetCopies.f k x0.f0 x0.f1) true := by
  unfold treenaillaw05_NetCopies.f
  obtain ⟨b, hb, hok⟩ := large_f x0.f0 x0.f1
  refine Ev.bind hb ?_
  cases b with
  | true => simp only [if_true]; exact line_f
  | false =>
   have h := hok rfl
   simp only [Bool.false_eq_true, if_false]
   refine Ev.bind (copy_f h) ?_
   simp only [cpOk_of h, if_true]
   refine Ev.bind (copy_f h) (Ev.bind (pnet_f h) ?_)
   simp only [if_true]
   refine Ev.bind (pnet_f h) ?_
   simp only [if_true]
   exact line_f
 obtain ⟨K, hK⟩ := h
 exact ⟨K, hK K (Nat.le_refl _)⟩
end Go.Proofs.YtdaeiicdpfghlaaDoor.Pure
