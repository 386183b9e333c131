/- Whatever the process: each node's ins and outs, the start and the end, and which messages are awaited are the reference's: the pure statement. -/
import Derived.Test.YtdaeiicdpfghlaaDoorV0
import Derived.Test.YtdaeiicdpfghlaaDoorSx0
import Derived.Test.YtdaeiicdpfghlaaDoorSx1
import Derived.Test.YtdaeiicdpfghlaaDoorSx2
import Derived.Test.YtdaeiicdpfghlaaDoorSx4
import Derived.Test.YtdaeiicdpfghlaaDoorSx5
import Derived.Test.YtdaeiicdpfghlaaDoorSx11
import Derived.Test.YtdaeiicdpfghlaaDoorSx12
import Derived.Test.YtdaeiicdpfghlaaDoorSx13
import Derived.Test.YtdaeiicdpfghlaaDoorSRk
set_option linter.unusedVariables false
set_option linter.unusedSimpArgs false
section
set_option linter.unusedVariables false
set_option linter.unusedSimpArgs false
namespace Go.Proofs.YtdaeiicdpfghlaaDoor.NP
open Go.RowKit Go.Proofs.YtdaeiicdpfghlaaDoor.R Go.Proofs.YtdaeiicdpfghlaaDoorW.PrintWords Go.Proofs.YtdaeiicdpfghlaaDoorW.PrintLast
theorem wrapS {x : Int} (h0 : -9223372036854775808 ≤ x) (h1 : x ≤ 9223372036854775807) : wrap64 x = x := by unfold wrap64; omega
theorem wrapI {i : Nat} (h : i ≤ 1000000000) : wrap64 ((i : Int) + 1) = ((i + 1 : Nat) : Int) := by rw [wrapS (by omega) (by omega)]; omega
theorem rd35 {l : List S35} {i : Nat} (h : i < l.length) : rd_T35 l (i : Int) = l[i] := by
 unfold rd_T35
 rw [show (i : Int).toNat = i from rfl, List.getD_eq_getElem?_getD, List.getElem?_eq_getElem h]
 rfl
theorem rd37 {l : List S37} {i : Nat} (h : i < l.length) : rd_T37 l (i : Int) = l[i] := by
 unfold rd_T37
 rw [show (i : Int).toNat = i from rfl, List.getD_eq_getElem?_getD, List.getElem?_eq_getElem h]
 rfl
theorem rd53 {l : List S53} {i : Nat} (h : i < l.length) : rd_T53 l (i : Int) = l[i] := by
 unfold rd_T53
 rw [show (i : Int).toNat = i from rfl, List.getD_eq_getElem?_getD, List.getElem?_eq_getElem h]
 rfl
theorem drop_at {α : Type} {l : List α} {i : Nat} (h : i < l.length) : l.drop i = l[i] :: l.drop (i + 1) := List.drop_eq_getElem_cons h
theorem drop_end {α : Type} {l : List α} {i : Nat} (h : l.length ≤ i) : l.drop i = [] := List.drop_eq_nil_of_le h
def fstI {α : Type} (v : α → Bool) : List α → Int → Int
 | [], _ => -1
 | x :: l, i => if v x = true then i else fstI v l (i + 1)
theorem fstI_nonneg {α : Type} (v : α → Bool) : ∀ (l : List α) (i : Int), 0 ≤ i → (0 ≤ fstI v l i ↔ l.any v = true)
 | [], i, _ => by simp [fstI]
 | x :: l, i, hi => by
  rw [fstI]
  by_cases h : v x = true
  ·rw [if_pos h]; simp [h, hi]
  ·rw [if_neg h, fstI_nonneg v l (i + 1) (by omega)]; simp [h]
theorem q58 (q : S37 → Option Bool) (x : S37) : QF58.f x.f0 x.f1 x.f2.f0 x.f2.f1 x.f2.f2 q = q x := by obtain ⟨a, b, c⟩ := x; cases c; rfl
theorem ixN_l0 (l : List S37) (q : S37 → Option Bool) (v : S37 → Bool) (hq : ∀ x ∈ l, q x = some (v x)) (hl : l.length ≤ 1000000) : ∀ (d i m : Nat), i + d = l.length → d < m → slices_IndexFunc_api_Node.l0 m l q (l.length : Int) (i : Int) = some (fstI v (l.drop i) i)
 | d, i, 0, _, h => absurd h (by omega)
 | 0, i, m + 1, hi, _ => by
  rw [slices_IndexFunc_api_Node.l0, if_neg (by omega), drop_end (by omega)]; rfl
 | d + 1, i, m + 1, hi, hm => by
  have hlt : i < l.length := by omega
  rw [slices_IndexFunc_api_Node.l0, if_pos (by omega), if_pos (by omega), if_pos (by omega), rd37 hlt, drop_at hlt]
  rw [q58 q l[i], hq _ (List.getElem_mem hlt), Option.bind_some, wrapS (by omega) (by omega), show ((i : Int) + 1) = ((i + 1 : Nat) : Int) by omega, ixN_l0 l q v hq hl d (i + 1) m (by omega) (by omega)]
  rw [fstI]
  cases v l[i] <;> simp
theorem ixN {l : List S37} {v : S37 → Bool} (hl : l.length ≤ 1000000) : Ev (fun k => slices_IndexFunc_api_Node.f k l (fun x => some (v x))) (fstI v l 0) := by
 refine ⟨l.length + 1, fun k hk => ?_⟩
 unfold slices_IndexFunc_api_Node.f
 have := ixN_l0 l (fun x => some (v x)) v (fun _ _ => rfl) hl l.length 0 k (by omega) (by omega)
 rw [show ((0 : Nat) : Int) = 0 from rfl] at this
 show slices_IndexFunc_api_Node.l0 k l _ (l.length : Int) 0 = _
 rw [this, List.drop_zero]
def sm : Nat → S35 → Prop
 | 0, _ => False
 | d + 1, t => t.f2.length ≤ 50 ∧ ∀ x ∈ t.f2, sm d x
end Go.Proofs.YtdaeiicdpfghlaaDoor.NP
end
section
set_option linter.unusedVariables false
set_option linter.unusedSimpArgs false
namespace Go.Proofs.YtdaeiicdpfghlaaDoor.NP
open Go.RowKit Go.Proofs.YtdaeiicdpfghlaaDoor.R Go.Proofs.YtdaeiicdpfghlaaDoorW.PrintWords Go.Proofs.YtdaeiicdpfghlaaDoorW.PrintLast
theorem ldeep_l0 {d : Nat} {a : Int} (ha : 0 ≤ a) (hb : a ≤ 60) (l : List S35) (hl : l.length ≤ 50)
  (ih : ∀ (t : S35) (s : Int), 0 ≤ s → s ≤ 3000 → ∃ b s', Ev (fun k => treenaillaw05_deep.f k t.f0 t.f1 t.f2 s (a + 1)) (b, s') ∧ (b = false → 0 ≤ s' ∧ s' ≤ 3000 ∧ sm d t)) :
  ∀ (n i : Nat) (s : Int), i + n = l.length → 0 ≤ s → s ≤ 3000 → ∃ b s', Ev (fun k => treenaillaw05_deep.l0 k a l (l.length : Int) (i : Int) s) (b, s') ∧ (b = false → 0 ≤ s' ∧ s' ≤ 3000 ∧ ∀ x ∈ l.drop i, sm d x)
 | 0, i, s, hi, h0, h1 => by
  refine ⟨false, s, Ev.step (fun k => by rw [treenaillaw05_deep.l0]) ?_, fun _ => ⟨h0, h1, by rw [drop_end (by omega)]; simp⟩⟩
  simp only [if_neg (show ¬ (i : Int) < (l.length : Int) by omega)]
  exact Ev.now _
 | n + 1, i, s, hi, h0, h1 => by
  have hlt : i < l.length := by omega
  obtain ⟨b, s', he, hs⟩ := ih l[i] s h0 h1
  cases b with
  | true =>
   refine ⟨true, s', Ev.step (fun k => by rw [treenaillaw05_deep.l0]) ?_, fun h => absurd h (by decide)⟩
   simp only [if_pos (show (i : Int) < (l.length : Int) by omega), if_pos (show (0 : Int) ≤ (i : Int) by omega), rd35 hlt, wrapS (x := a + 1) (by omega) (by omega)]
   refine Ev.bind he ?_
   simp only [if_true]
   exact Ev.now _
  | false =>
   obtain ⟨g0, g1, g2⟩ := hs rfl
   obtain ⟨b, s2, he2, hs2⟩ := ldeep_l0 ha hb l hl ih n (i + 1) s' (by omega) g0 g1
   refine ⟨b, s2, Ev.step (fun k => by rw [treenaillaw05_deep.l0]) ?_, fun h => ?_⟩
   ·simp only [if_pos (show (i : Int) < (l.length : Int) by omega), if_pos (show (0 : Int) ≤ (i : Int) by omega), rd35 hlt, wrapS (x := a + 1) (by omega) (by omega), wrapI (i := i) (by omega)]
    refine Ev.bind he ?_
    simp only [Bool.false_eq_true, if_false]
    exact he2
   ·obtain ⟨q0, q1, q2⟩ := hs2 h
    refine ⟨q0, q1, ?_⟩
    rw [drop_at hlt]
    intro x hx
    rcases List.mem_cons.1 hx with rfl | hx
    ·exact g2
    ·exact q2 x hx
theorem ldeep_f : ∀ (d : Nat) (a : Int), 0 ≤ a → a + d = 61 → ∀ (t : S35) (s : Int), 0 ≤ s → s ≤ 3000 → ∃ b s', Ev (fun k => treenaillaw05_deep.f k t.f0 t.f1 t.f2 s a) (b, s') ∧ (b = false → 0 ≤ s' ∧ s' ≤ 3000 ∧ sm d t) := by
 intro d
 induction d with
 | zero =>
  intro a ha hd t s h0 h1
  refine ⟨true, s - 1, Ev.step (fun k => by rw [treenaillaw05_deep.f]) ?_, fun h => absurd h (by decide)⟩
  simp only [wrapS (x := s - 1) (by omega) (by omega), if_pos (show a > 60 by omega)]
  have : Ev (fun k => treenaillaw05_deep.j0 k a true (s - 1) t.f0 t.f1 t.f2) (true, s - 1) := by
   refine Ev.step (fun k => by rw [treenaillaw05_deep.j0]) ?_
   simp only [if_true]
   exact Ev.now _
  by_cases h : s - 1 < 0
  ·simp only [if_pos h]; exact this
  ·simp only [if_neg h]; exact this
 | succ d ih =>
  intro a ha hd t s h0 h1
  have jt : Ev (fun k => treenaillaw05_deep.j0 k a true (s - 1) t.f0 t.f1 t.f2) (true, s - 1) := by
   refine Ev.step (fun k => by rw [treenaillaw05_deep.j0]) ?_
   simp only [if_true]
   exact Ev.now _
  by_cases h : s - 1 < 0
  ·refine ⟨true, s - 1, Ev.step (fun k => by rw [treenaillaw05_deep.f]) ?_, fun h => absurd h (by decide)⟩
   simp only [wrapS (x := s - 1) (by omega) (by omega), if_pos h]
   exact jt
  by_cases hl : (t.f2.length : Int) > 50
  ·refine ⟨true, s - 1, Ev.step (fun k => by rw [treenaillaw05_deep.f]) ?_, fun h => absurd h (by decide)⟩
   simp only [wrapS (x := s - 1) (by omega) (by omega), if_neg h, if_neg (show ¬ a > 60 by omega), decide_eq_true hl]
   exact jt
  obtain ⟨b, s', he, hs⟩ := ldeep_l0 (d := d) ha (by omega) t.f2 (by omega) (fun t s h0 h1 => ih (a + 1) (by omega) (by omega) t s h0 h1) t.f2.length 0 (s - 1) (by omega) (by omega) (by omega)
  refine ⟨b, s', Ev.step (fun k => by rw [treenaillaw05_deep.f]) ?_, fun hb => ?_⟩
  ·simp only [wrapS (x := s - 1) (by omega) (by omega), if_neg h, if_neg (show ¬ a > 60 by omega), decide_eq_false hl]
   refine Ev.step (fun k => by rw [treenaillaw05_deep.j0]) ?_
   simp only [Bool.false_eq_true, if_false]
   exact he
  ·obtain ⟨q0, q1, q2⟩ := hs hb
   rw [List.drop_zero] at q2
   exact ⟨q0, q1, by omega, q2⟩
structure Ok (N : List S37) (F : List S53) : Prop where
 n : N.length ≤ 60
 f : F.length ≤ 100
 tn : ∀ x ∈ N, sm 60 x.f2
 tf : ∀ x ∈ F, sm 60 x.f3
theorem large_l1 (F : List S53) (hf : F.length ≤ 100) : ∀ (n i : Nat) (s : Int), i + n = F.length → 0 ≤ s → s ≤ 3000 → ∃ b, Ev (fun k => treenaillaw05_large.l1 k F (F.length : Int) (i : Int) s) b ∧ (b = false → ∀ x ∈ F.drop i, sm 60 x.f3)
 | 0, i, s, hi, h0, h1 => by
  refine ⟨false, Ev.step (fun k => by rw [treenaillaw05_large.l1]) ?_, fun _ => by rw [drop_end (by omega)]; simp⟩
  simp only [if_neg (show ¬ (i : Int) < (F.length : Int) by omega)]
  exact Ev.now _
 | n + 1, i, s, hi, h0, h1 => by
  have hlt : i < F.length := by omega
  obtain ⟨b, s', he, hs⟩ := ldeep_f 60 1 (by omega) (by omega) F[i].f3 s h0 h1
  cases b with
  | true =>
   refine ⟨true, Ev.step (fun k => by rw [treenaillaw05_large.l1]) ?_, fun h => absurd h (by decide)⟩
   simp only [if_pos (show (i : Int) < (F.length : Int) by omega), if_pos (show (0 : Int) ≤ (i : Int) by omega), rd53 hlt]
   refine Ev.bind he ?_
   simp only [if_true]
   exact Ev.now _
  | false =>
   obtain ⟨g0, g1, g2⟩ := hs rfl
   obtain ⟨b, he2, hs2⟩ := large_l1 F hf n (i + 1) s' (by omega) g0 g1
   refine ⟨b, Ev.step (fun k => by rw [treenaillaw05_large.l1]) ?_, fun h => ?_⟩
   ·simp only [if_pos (show (i : Int) < (F.length : Int) by omega), if_pos (show (0 : Int) ≤ (i : Int) by omega), rd53 hlt, wrapI (i := i) (by omega)]
    refine Ev.bind he ?_
    simp only [Bool.false_eq_true, if_false]
    exact he2
   ·rw [drop_at hlt]
    intro x hx
    rcases List.mem_cons.1 hx with rfl | hx
    ·exact g2
    ·exact hs2 h x hx
theorem large_l0 (N : List S37) (F : List S53) (hn : N.length ≤ 60) (hf : F.length ≤ 100) : ∀ (n i : Nat) (s : Int), i + n = N.length → 0 ≤ s → s ≤ 3000 → ∃ b, Ev (fun k => treenaillaw05_large.l0 k N (N.length : Int) (i : Int) N F s) b ∧ (b = false → (∀ x ∈ N.drop i, sm 60 x.f2) ∧ ∀ x ∈ F, sm 60 x.f3)
 | 0, i, s, hi, h0, h1 => by
  obtain ⟨b, he, hb⟩ := large_l1 F hf F.length 0 s (by omega) h0 h1
  refine ⟨b, Ev.step (fun k => by rw [treenaillaw05_large.l0]) ?_, fun h => ⟨by rw [drop_end (by omega)]; simp, by simpa using hb h⟩⟩
  simp only [if_neg (show ¬ (i : Int) < (N.length : Int) by omega)]
  exact he
 | n + 1, i, s, hi, h0, h1 => by
  have hlt : i < N.length := by omega
  obtain ⟨b, s', he, hs⟩ := ldeep_f 60 1 (by omega) (by omega) N[i].f2 s h0 h1
  cases b with
  | true =>
   refine ⟨true, Ev.step (fun k => by rw [treenaillaw05_large.l0]) ?_, fun h => absurd h (by decide)⟩
   simp only [if_pos (show (i : Int) < (N.length : Int) by omega), if_pos (show (0 : Int) ≤ (i : Int) by omega), rd37 hlt]
   refine Ev.bind he ?_
   simp only [if_true]
   exact Ev.now _
  | false =>
   obtain ⟨g0, g1, g2⟩ := hs rfl
   obtain ⟨b, he2, hs2⟩ := large_l0 N F hn hf n (i + 1) s' (by omega) g0 g1
   refine ⟨b, Ev.step (fun k => by rw [treenaillaw05_large.l0]) ?_, fun h => ⟨?_, (hs2 h).2⟩⟩
   ·simp only [if_pos (show (i : Int) < (N.length : Int) by omega), if_pos (show (0 : Int) ≤ (i : Int) by omega), rd37 hlt, wrapI (i := i) (by omega)]
    refine Ev.bind he ?_
    simp only [Bool.false_eq_true, if_false]
    exact he2
   ·rw [drop_at hlt]
    intro x hx
    rcases List.mem_cons.1 hx with rfl | hx
    ·exact g2
    ·exact (hs2 h).1 x hx
theorem large_f (N : List S37) (F : List S53) : ∃ b, Ev (fun k => treenaillaw05_large.f k N F) b ∧ (b = false → Ok N F) := by
 have jt : Ev (fun k => treenaillaw05_large.j0 k true N F) true := by
  refine Ev.step (fun k => by rw [treenaillaw05_large.j0]) ?_
  simp only [if_true]
  exact Ev.now _
 unfold treenaillaw05_large.f
 by_cases hn : (N.length : Int) > 60
 ·simp only [if_pos hn]
  exact ⟨true, jt, fun h => absurd h (by decide)⟩
 simp only [if_neg hn]
 by_cases hf : (F.length : Int) > 100
 ·simp only [decide_eq_true hf]
  exact ⟨true, jt, fun h => absurd h (by decide)⟩
 simp only [decide_eq_false hf]
 obtain ⟨b, he, hb⟩ := large_l0 N F (by omega) (by omega) N.length 0 3000 (by omega) (by omega) (by omega)
 refine ⟨b, Ev.step (fun k => by rw [treenaillaw05_large.j0]) ?_, fun h => ?_⟩
 ·simp only [Bool.false_eq_true, if_false]; exact he
 ·have := hb h
  rw [List.drop_zero] at this
  exact ⟨by omega, by omega, this.1, this.2⟩
def posI {α : Type} (v : α → Bool) : List α → Int → List Int
 | [], _ => []
 | x :: l, i => if v x = true then i :: posI v l (i + 1) else posI v l (i + 1)
theorem posI_len {α : Type} (v : α → Bool) : ∀ (l : List α) (i : Int), (posI v l i).length ≤ l.length
 | [], _ => Nat.le_refl _
 | x :: l, i => by rw [posI]; have := posI_len v l (i + 1); split <;> simp only [List.length_cons] <;> omega
theorem q61 (q : S53 → Option Bool) (x : S53) : QF61.f x.f0 x.f1 x.f2 x.f3.f0 x.f3.f1 x.f3.f2 q = q x := by obtain ⟨a, b, c, d⟩ := x; cases d; rfl
theorem flows_l0 {F : List S53} {v : S53 → Bool} (hf : F.length ≤ 100) : ∀ (n i : Nat) (acc : List Int), i + n = F.length → acc.length ≤ i →
  Ev (fun k => net_flows.l0 k (fun x => some (v x)) acc F (F.length : Int) (i : Int)) (acc ++ posI v (F.drop i) i)
 | 0, i, acc, hi, ha => by
  refine Ev.step (fun k => by rw [net_flows.l0]) ?_
  simp only [if_neg (show ¬ (i : Int) < (F.length : Int) by omega), drop_end (show F.length ≤ i by omega), posI, List.append_nil]
  exact Ev.now _
 | n + 1, i, acc, hi, ha => by
  refine Ev.step (fun k => by rw [net_flows.l0]) ?_
  have hlt : i < F.length := by omega
  simp only [if_pos (show (i : Int) < (F.length : Int) by omega), if_pos (show (0 : Int) ≤ (i : Int) by omega), rd53 hlt, drop_at hlt, posI, wrapI (i := i) (by omega), q61, Option.bind_some]
  cases v F[i] with
  | true =>
   simp only [if_true, if_pos (show acc.length < 17592186044416 by omega)]
   have := flows_l0 (v := v) hf n (i + 1) (acc ++ [(i : Int)]) (by omega) (by simp; omega)
   rw [List.append_assoc] at this
   exact this
  | false =>
   simp only [Bool.false_eq_true, if_false]
   exact flows_l0 (v := v) hf n (i + 1) acc (by omega) (by omega)
theorem flows_f {N : List S37} {F : List S53} (v : S53 → Bool) (hf : F.length ≤ 100) : Ev (fun k => net_flows.f k N F (fun x => some (v x))) (posI v F 0) := by
 have := flows_l0 (v := v) hf F.length 0 [] (by omega) (by simp)
 rw [List.nil_append, List.drop_zero] at this
 exact this
def ins (F : List S53) (i : Int) : List Int := posI (fun f => f.f1 == i) F 0
def outs (F : List S53) (i : Int) : List Int := posI (fun f => f.f0 == i) F 0
theorem ins_f {N : List S37} {F : List S53} (hf : F.length ≤ 100) (i : Int) : Ev (fun k => net_Ins.f k N F i) (ins F i) := by
 unfold net_Ins.f
 exact Ev.bind (flows_f (fun f => f.f1 == i) hf) (Ev.now _)
theorem outs_f {N : List S37} {F : List S53} (hf : F.length ≤ 100) (i : Int) : Ev (fun k => net_Outs.f k N F i) (outs F i) := by
 unfold net_Outs.f
 exact Ev.bind (flows_f (fun f => f.f0 == i) hf) (Ev.now _)
theorem rins_l0 {F : List S53} (x : Int) (hf : F.length ≤ 100) : ∀ (n i : Nat) (acc : List Int), i + n = F.length → acc.length ≤ i →
  Ev (fun k => treenailref05_Ins.l0 k x acc F (F.length : Int) (i : Int)) (acc ++ posI (fun f => f.f1 == x) (F.drop i) i)
 | 0, i, acc, hi, ha => by
  refine Ev.step (fun k => by rw [treenailref05_Ins.l0]) ?_
  simp only [if_neg (show ¬ (i : Int) < (F.length : Int) by omega), drop_end (show F.length ≤ i by omega), posI, List.append_nil]
  exact Ev.now _
 | n + 1, i, acc, hi, ha => by
  refine Ev.step (fun k => by rw [treenailref05_Ins.l0]) ?_
  have hlt : i < F.length := by omega
  simp only [if_pos (show (i : Int) < (F.length : Int) by omega), if_pos (show (0 : Int) ≤ (i : Int) by omega), rd53 hlt, drop_at hlt, posI, wrapI (i := i) (by omega)]
  by_cases h : F[i].f1 = x
  ·simp only [if_pos h, beq_iff_eq, if_pos (show acc.length < 17592186044416 by omega)]
   have := rins_l0 x hf n (i + 1) (acc ++ [(i : Int)]) (by omega) (by simp; omega)
   rw [List.append_assoc] at this
   exact this
  ·simp only [if_neg h, beq_iff_eq]
   exact rins_l0 x hf n (i + 1) acc (by omega) (by omega)
theorem rins_f {N : List S37} {F : List S53} (hf : F.length ≤ 100) (i : Int) : Ev (fun k => treenailref05_Ins.f k N F i) (ins F i) := by
 have := rins_l0 i hf F.length 0 [] (by omega) (by simp)
 rw [List.nil_append, List.drop_zero] at this
 exact this
theorem routs_l0 {F : List S53} (x : Int) (hf : F.length ≤ 100) : ∀ (n i : Nat) (acc : List Int), i + n = F.length → acc.length ≤ i →
  Ev (fun k => treenailref05_Outs.l0 k x acc F (F.length : Int) (i : Int)) (acc ++ posI (fun f => f.f0 == x) (F.drop i) i)
 | 0, i, acc, hi, ha => by
  refine Ev.step (fun k => by rw [treenailref05_Outs.l0]) ?_
  simp only [if_neg (show ¬ (i : Int) < (F.length : Int) by omega), drop_end (show F.length ≤ i by omega), posI, List.append_nil]
  exact Ev.now _
 | n + 1, i, acc, hi, ha => by
  refine Ev.step (fun k => by rw [treenailref05_Outs.l0]) ?_
  have hlt : i < F.length := by omega
  simp only [if_pos (show (i : Int) < (F.length : Int) by omega), if_pos (show (0 : Int) ≤ (i : Int) by omega), rd53 hlt, drop_at hlt, posI, wrapI (i := i) (by omega)]
  by_cases h : F[i].f0 = x
  ·simp only [if_pos h, beq_iff_eq, if_pos (show acc.length < 17592186044416 by omega)]
   have := routs_l0 x hf n (i + 1) (acc ++ [(i : Int)]) (by omega) (by simp; omega)
   rw [List.append_assoc] at this
   exact this
  ·simp only [if_neg h, beq_iff_eq]
   exact routs_l0 x hf n (i + 1) acc (by omega) (by omega)
theorem routs_f {N : List S37} {F : List S53} (hf : F.length ≤ 100) (i : Int) : Ev (fun k => treenailref05_Outs.f k N F i) (outs F i) := by
 have := routs_l0 i hf F.length 0 [] (by omega) (by simp)
 rw [List.nil_append, List.drop_zero] at this
 exact this
def first (N : List S37) (c : Int) : Int := fstI (fun x => x.f0 == c) N 0
theorem start_f {N : List S37} {F : List S53} (hn : N.length ≤ 1000000) : Ev (fun k => net_Start.f k N F) (first N 1) := by
 unfold net_Start.f
 exact Ev.bind (ixN (v := fun x => x.f0 == 1) hn) (Ev.now _)
theorem end_f {N : List S37} {F : List S53} (hn : N.length ≤ 1000000) : Ev (fun k => net_End.f k N F) (first N 2) := by
 unfold net_End.f
 exact Ev.bind (ixN (v := fun x => x.f0 == 2) hn) (Ev.now _)
theorem rfirst_l0 {N : List S37} (c : Int) (hn : N.length ≤ 1000000) : ∀ (n i : Nat), i + n = N.length →
  Ev (fun k => treenailref05_First.l0 k c N (N.length : Int) (i : Int)) (fstI (fun x => x.f0 == c) (N.drop i) i)
 | 0, i, hi => by
  refine Ev.step (fun k => by rw [treenailref05_First.l0]) ?_
  simp only [if_neg (show ¬ (i : Int) < (N.length : Int) by omega), drop_end (show N.length ≤ i by omega), fstI]
  exact Ev.now _
 | n + 1, i, hi => by
  refine Ev.step (fun k => by rw [treenailref05_First.l0]) ?_
  have hlt : i < N.length := by omega
  simp only [if_pos (show (i : Int) < (N.length : Int) by omega), if_pos (show (0 : Int) ≤ (i : Int) by omega), rd37 hlt, drop_at hlt, fstI, wrapI (i := i) (by omega)]
  by_cases h : N[i].f0 = c
  ·simp only [if_pos h, beq_iff_eq]; exact Ev.now _
  ·simp only [if_neg h, beq_iff_eq]; exact rfirst_l0 c hn n (i + 1) (by omega)
theorem rfirst_f {N : List S37} {F : List S53} (hn : N.length ≤ 1000000) (c : Int) : Ev (fun k => treenailref05_First.f k N F c) (first N c) := by
 have := rfirst_l0 c hn N.length 0 (by omega)
 rw [List.drop_zero] at this
 exact this
end Go.Proofs.YtdaeiicdpfghlaaDoor.NP
end
section
set_option linter.unusedVariables false
set_option linter.unusedSimpArgs false
namespace Go.Proofs.YtdaeiicdpfghlaaDoor.NP
open Go.RowKit Go.Proofs.YtdaeiicdpfghlaaDoor.R Go.Proofs.YtdaeiicdpfghlaaDoorW.PrintWords Go.Proofs.YtdaeiicdpfghlaaDoorW.PrintLast
theorem outs_len (F : List S53) (i : Int) : (outs F i).length ≤ F.length := posI_len _ _ _
theorem ins_len (F : List S53) (i : Int) : (ins F i).length ≤ F.length := posI_len _ _ _
end Go.Proofs.YtdaeiicdpfghlaaDoor.NP
end
section
set_option linter.unusedVariables false
set_option linter.unusedSimpArgs false
namespace Go.Proofs.YtdaeiicdpfghlaaDoor.NP
open Go.RowKit Go.Proofs.YtdaeiicdpfghlaaDoor.R Go.Proofs.YtdaeiicdpfghlaaDoorW.PrintWords Go.Proofs.YtdaeiicdpfghlaaDoorW.PrintLast
def T (t : List Bool) (i : Nat) : Prop := t.getD i false = true
instance (t : List Bool) (i : Nat) : Decidable (T t i) := by unfold T; infer_instance
end Go.Proofs.YtdaeiicdpfghlaaDoor.NP
end
section
set_option linter.unusedVariables false
set_option linter.unusedSimpArgs false
namespace Go.Proofs.YtdaeiicdpfghlaaDoor.NP
open Go.RowKit Go.Proofs.YtdaeiicdpfghlaaDoor.R Go.Proofs.YtdaeiicdpfghlaaDoorW.PrintWords Go.Proofs.YtdaeiicdpfghlaaDoorW.PrintLast
def big (N : List S37) (F : List S53) : Prop := N.length > 24 ∨ F.length > 40
instance (N : List S37) (F : List S53) : Decidable (big N F) := by unfold big; infer_instance
end Go.Proofs.YtdaeiicdpfghlaaDoor.NP
end
section
set_option linter.unusedVariables false
set_option linter.unusedSimpArgs false
namespace Go.Proofs.YtdaeiicdpfghlaaDoor.NP
open Go.RowKit Go.Proofs.YtdaeiicdpfghlaaDoor.R Go.Proofs.YtdaeiicdpfghlaaDoorW.PrintWords Go.Proofs.YtdaeiicdpfghlaaDoorW.PrintLast
set_option maxRecDepth 100000 in
theorem line_f : Ev (fun k => treenaillaw05_line.f k) true := Ev.of (fun k => treenaillaw05_line.mono k) (k := 100) (by kernel_rfl)
theorem ints_l0 (a : List Int) (hs : a.length ≤ 100000) : ∀ (d i : Nat), i + d = a.length → Ev (fun k => treenailplain_Ints.l0 k a a (a.length : Int) (i : Int)) true
 | 0, i, hi => by
  refine Ev.step (fun k => by rw [treenailplain_Ints.l0]) ?_
  simp only [if_neg (show ¬ (i : Int) < (a.length : Int) by omega), beq_self_eq_true]
  exact Ev.now _
 | d + 1, i, hi => by
  refine Ev.step (fun k => by rw [treenailplain_Ints.l0]) ?_
  simp only [if_pos (show (i : Int) < (a.length : Int) by omega), if_neg (show ¬ (i : Int) ≥ (a.length : Int) by omega), if_pos (show (0 : Int) ≤ (i : Int) by omega), if_true, wrapI (i := i) (by omega)]
  exact ints_l0 a hs d (i + 1) (by omega)
theorem ints_f (a : List Int) (hs : a.length ≤ 100000) : Ev (fun k => treenailplain_Ints.f k a a) true := ints_l0 a hs a.length 0 (by omega)
def aw (i : Int) (x : S37) : Bool := ((x.f0 == 8) && (x.f1 == i)) && (decide (0 ≤ i) && decide (i < 4))
theorem any_and {α : Type} (p : α → Bool) (b : Bool) : ∀ l : List α, (l.any fun x => p x && b) = (l.any p && b)
 | [] => by simp
 | a :: l => by rw [List.any_cons, List.any_cons, any_and p b l]; cases p a <;> cases b <;> simp
theorem awaits_f {N : List S37} {F : List S53} (hn : N.length ≤ 1000000) (i : Int) : Ev (fun k => net_Awaits.f k N F i) (N.any (aw i)) := by
 unfold net_Awaits.f slices_ContainsFunc_api_Node.f
 have e : N.any (aw i) = (N.any (fun x => (x.f0 == 8) && (x.f1 == i)) && (decide (0 ≤ i) && decide (i < 4))) := any_and _ _ N
 rw [e]
 by_cases h0 : i ≥ 0
 ·simp only [if_pos h0]
  by_cases h1 : i < 4
  ·simp only [if_pos h1, decide_eq_true (show 0 ≤ i from h0), decide_eq_true h1, Bool.and_true]
   refine Ev.bind (Ev.bind (ixN (v := fun x => (x.f0 == 8) && (x.f1 == i)) hn) (Ev.now _)) ?_
   have := fstI_nonneg (fun x : S37 => (x.f0 == 8) && (x.f1 == i)) N 0 (by omega)
   rw [show decide (fstI (fun x : S37 => (x.f0 == 8) && (x.f1 == i)) N 0 ≥ 0) = N.any (fun x => (x.f0 == 8) && (x.f1 == i)) by rw [Bool.eq_iff_iff, decide_eq_true_iff]; exact this]
   exact Ev.now _
  ·simp only [if_neg h1, decide_eq_false h1, Bool.and_false]; exact Ev.now _
 ·simp only [if_neg h0, decide_eq_false (show ¬ 0 ≤ i from h0), Bool.false_and, Bool.and_false]; exact Ev.now _
end Go.Proofs.YtdaeiicdpfghlaaDoor.NP
end
set_option linter.unusedVariables false
set_option linter.unusedSimpArgs false
namespace Go.Proofs.YtdaeiicdpfghlaaDoor.Pure
open Go.RowKit Go.Proofs.YtdaeiicdpfghlaaDoor.R Go.Proofs.YtdaeiicdpfghlaaDoorW.PrintWords Go.Proofs.YtdaeiicdpfghlaaDoorW.PrintLast Go.Proofs.YtdaeiicdpfghlaaDoor.NP
theorem flows_law_l0 {N : List S37} {F : List S53} (h : Ok N F) (x : Int) : ∀ (d i : Nat) (b : Bool), i + d = N.length → (b || (N.drop i).any (aw x)) = N.any (aw x) → Ev (fun k => treenaillaw05_NetFlows.l0 k x b N (N.length : Int) (i : Int) N F) true
 | 0, i, b, hi, hb => by
  have hn := h.n
  refine Ev.step (fun k => by rw [treenaillaw05_NetFlows.l0]) ?_
  rw [drop_end (by omega), List.any_nil, Bool.or_false] at hb
  simp only [if_neg (show ¬ (i : Int) < (N.length : Int) by omega)]
  refine Ev.bind (ins_f h.f x) (Ev.bind (rins_f h.f x) (Ev.bind (ints_f _ (by have := ins_len F x; have := h.f; omega)) ?_))
  simp only [if_true]
  refine Ev.bind (outs_f h.f x) (Ev.bind (routs_f h.f x) (Ev.bind (ints_f _ (by have := outs_len F x; have := h.f; omega)) ?_))
  simp only [if_true]
  refine Ev.bind (start_f (by omega)) (Ev.bind (rfirst_f (by omega) 1) ?_)
  simp only [if_true]
  refine Ev.bind (end_f (by omega)) (Ev.bind (rfirst_f (by omega) 2) ?_)
  simp only [if_true]
  refine Ev.bind (awaits_f (by omega) x) ?_
  rw [hb]
  simp only [beq_self_eq_true, if_true]
  exact Ev.bind line_f (Ev.now _)
 | d + 1, i, b, hi, hb => by
  have hn := h.n
  have hlt : i < N.length := by omega
  refine Ev.step (fun k => by rw [treenaillaw05_NetFlows.l0]) ?_
  rw [drop_at hlt, List.any_cons] at hb
  simp only [if_pos (show (i : Int) < (N.length : Int) by omega), if_pos (show (0 : Int) ≤ (i : Int) by omega), rd37 hlt, wrapI (i := i) (by omega)]
  cases b with
  | true =>
   simp only [if_true]
   exact flows_law_l0 h x d (i + 1) true (by omega) (by rw [Bool.true_or]; rw [Bool.true_or] at hb; exact hb)
  | false =>
   simp only [Bool.false_eq_true, if_false]
   rw [Bool.false_or] at hb
   have go := flows_law_l0 h x d (i + 1) (aw x N[i]) (by omega) hb
   unfold aw at go
   by_cases h8 : N[i].f0 = 8
   ·simp only [if_pos h8]
    by_cases hx : N[i].f1 = x
    ·simp only [if_pos hx]
     by_cases h0 : x ≥ 0
     ·simp only [if_pos h0]
      rwa [show ((N[i].f0 == 8) && (N[i].f1 == x) && (decide (0 ≤ x) && decide (x < 4))) = decide (x < 4) by rw [h8, hx, decide_eq_true (show 0 ≤ x from h0)]; simp] at go
     ·simp only [if_neg h0]
      rwa [show ((N[i].f0 == 8) && (N[i].f1 == x) && (decide (0 ≤ x) && decide (x < 4))) = false by rw [decide_eq_false (show ¬ 0 ≤ x from h0)]; simp] at go
    ·simp only [if_neg hx]
     rwa [show ((N[i].f0 == 8) && (N[i].f1 == x) && (decide (0 ≤ x) && decide (x < 4))) = false by rw [show (N[i].f1 == x) = false from beq_eq_false_iff_ne.mpr hx]; simp] at go
   ·simp only [if_neg h8]
    rwa [show ((N[i].f0 == 8) && (N[i].f1 == x) && (decide (0 ≤ x) && decide (x < 4))) = false by rw [show (N[i].f0 == 8) = false from beq_eq_false_iff_ne.mpr h8]; simp] at go
theorem NetFlows : ∀ (x0 : S25) (a1 : Int), ok_T25 x0 → (Lit.int .i64 a1).wf = true → ∃ k, treenaillaw05_NetFlows.f k x0.f0 x0.f1 a1 = some true := by
 intro x0 a1 _ _
 have h : Ev (fun k => treenaillaw05_NetFlows.f k x0.f0 x0.f1 a1) true := by
  unfold treenaillaw05_NetFlows.f
  obtain ⟨b, hb, hok⟩ := large_f x0.f0 x0.f1
  refine Ev.bind hb ?_
  cases b with
  | true => simp only [if_true]; exact Ev.bind line_f (Ev.now _)
  | false =>
   simp only [Bool.false_eq_true, if_false]
   exact flows_law_l0 (hok rfl) a1 x0.f0.length 0 false (by omega) (by rw [Bool.false_or, List.drop_zero])
 exact h.rounds
end Go.Proofs.YtdaeiicdpfghlaaDoor.Pure
