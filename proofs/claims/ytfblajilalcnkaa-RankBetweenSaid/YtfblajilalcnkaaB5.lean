/- Orders: where nothing goes round, the program and the document build the same order. -/
import Derived.Test.YtfblajilalcnkaaB4
import Derived.Test.YtfblajilalcnkaaQx6
set_option linter.unusedVariables false
set_option linter.unusedSimpArgs false
set_option linter.unusedSectionVars false
set_option maxRecDepth 10000
namespace Go.Proofs.Ytfblajilalcnkaa.B
open Go.RowKit Go.Proofs.Ytfblajilalcnkaa.Q Go.Proofs.YtfblajilalcnkaaW.PrintWords Go.Proofs.YtfblajilalcnkaaW.PrintLast Go.Proofs.YtfblajilalcnkaaW.PrintMore

theorem least {α : Type} (R : α → α → Prop) (tr : ∀ a b c, R a b → R b c → R a c) : ∀ L : List α, (∀ a ∈ L, ¬ R a a) → L ≠ [] → ∃ m ∈ L, ∀ y ∈ L, ¬ R y m
  | [], _, h => absurd rfl h
  | [a], ir, _ => ⟨a, by simp, by simpa using ir a (by simp)⟩
  | a :: b :: L, ir, _ => by
    obtain ⟨m, hm, h⟩ := least R tr (b :: L) (fun x hx => ir x (List.mem_cons_of_mem _ hx)) (by simp)
    by_cases c : R a m
    · refine ⟨a, by simp, ?_⟩
      intro y hy
      rcases List.mem_cons.1 hy with rfl | hy
      · exact ir y (by simp)
      · exact fun hr => h y hy (tr _ _ _ hr c)
    · refine ⟨m, List.mem_cons_of_mem _ hm, ?_⟩
      intro y hy
      rcases List.mem_cons.1 hy with rfl | hy
      · exact c
      · exact h y hy
theorem pig : ∀ (N : Nat) (o : List Nat), (∀ x, x < N → x ∈ o) → N ≤ o.length
  | 0, _, _ => Nat.zero_le _
  | N + 1, o, h => by
    have hN := h N (by omega)
    have := pig N (o.erase N) (fun x hx => (List.mem_erase_of_ne (by omega)).2 (h x (by omega)))
    rw [List.length_erase_of_mem hN] at this
    have : 0 < o.length := List.length_pos_of_mem hN
    omega
theorem pig2 : ∀ (N : Nat) (o : List Nat), o.Nodup → (∀ x ∈ o, x < N) → o.length ≤ N
  | 0, o, _, h => by
    cases o with
    | nil => simp
    | cons a o => exact absurd (h a (by simp)) (by omega)
  | N + 1, o, hd, h => by
    by_cases hN : N ∈ o
    · have := pig2 N (o.erase N) (hd.erase N) (fun x hx => by
        have h1 := h x (List.mem_of_mem_erase hx)
        have h2 := (hd.mem_erase_iff.1 hx).1
        omega)
      rw [List.length_erase_of_mem hN] at this
      omega
    · have := pig2 N o hd (fun x hx => by
        have h1 := h x hx
        have : x ≠ N := fun e => hN (e ▸ hx)
        omega)
      omega
/-- What was built so far is in order. -/
structure Built (P : List (Nat × Nat)) (N : Nat) (o : List Nat) : Prop where
  lt : ∀ x ∈ o, x < N
  nodup : o.Nodup
  ahead : ∀ j, ∀ (hj : j < o.length), ∀ p ∈ P, p.2 = o[j] → ∃ q, ∃ (hq : q < o.length), q < j ∧ o[q] = p.1
def fr (P : List (Nat × Nat)) (o : List Nat) (x : Nat) : Prop := x ∉ o ∧ ∀ p ∈ P, p.2 = x → p.1 ∈ o
theorem Built.add {P : List (Nat × Nat)} {N : Nat} {o : List Nat} (h : Built P N o) {x : Nat} (hx : x < N) (f : fr P o x) : Built P N (o ++ [x]) := by
  refine ⟨?_, ?_, ?_⟩
  · intro y hy
    rcases List.mem_append.1 hy with hy | hy
    · exact h.lt y hy
    · have := List.mem_singleton.1 hy
      omega
  · rw [List.nodup_append]
    refine ⟨h.nodup, by simp, ?_⟩
    intro a ha b hb e
    have := List.mem_singleton.1 hb
    subst this
    subst e
    exact f.1 ha
  · intro j hj p hp e
    rw [List.length_append, List.length_singleton] at hj
    by_cases c : j < o.length
    · rw [List.getElem_append_left c] at e
      obtain ⟨q, hq, h1, h2⟩ := h.ahead j c p hp e
      exact ⟨q, by rw [List.length_append]; omega, h1, by rw [List.getElem_append_left hq]; exact h2⟩
    · have : j = o.length := by omega
      subst this
      rw [List.getElem_append_right (by omega)] at e
      obtain ⟨q, hq, h2⟩ := List.getElem_of_mem (f.2 p hp (by simpa using e))
      exact ⟨q, by rw [List.length_append]; omega, by omega, by rw [List.getElem_append_left hq]; exact h2⟩
def run (P : List (Nat × Nat)) (y x : Nat) : Prop := inCl P (seeds P y) x
theorem run_trans {P : List (Nat × Nat)} {a b c : Nat} (h : run P a b) (g : run P b c) : run P a c := by
  intro u hu hs
  refine g u hu ?_
  rintro i ⟨p, hp, e1, e2⟩
  rw [← e2]
  refine hu p hp ?_
  rw [e1]
  exact h u hu hs
theorem run_edge {P : List (Nat × Nat)} {p : Nat × Nat} (hp : p ∈ P) : run P p.1 p.2 := fun u hu hs => hs _ ⟨p, hp, rfl, rfl⟩
theorem free_ex {P : List (Nat × Nat)} {N : Nat} (hP : valid N P) (nr : ∀ i, i < N → ¬ run P i i) {o : List Nat} (hl : o.length < N) : ∃ x, x < N ∧ fr P o x ∧ ∀ y, y < x → ¬ fr P o y := by
  have hne : (List.range N).filter (fun x => decide (x ∉ o)) ≠ [] := by
    intro h
    have := pig N o (fun x hx => by
      have h1 := List.filter_eq_nil_iff.1 h x (by simpa using hx)
      simpa using h1)
    omega
  obtain ⟨m, hm, h⟩ := least (run P) (fun a b c => run_trans) _ (fun a ha => nr a (by simpa using (List.mem_filter.1 ha).1)) hne
  have hm1 : m < N := by simpa using (List.mem_filter.1 hm).1
  have hm2 : m ∉ o := by simpa using (List.mem_filter.1 hm).2
  have hf : fr P o m := by
    refine ⟨hm2, ?_⟩
    intro p hp e
    by_cases c : p.1 ∈ o
    · exact c
    · refine absurd (e ▸ run_edge hp) (h p.1 ?_)
      rw [List.mem_filter]
      exact ⟨by simpa using (hP p hp).1, by simpa using c⟩
  have key : ∀ d m, m = d → m < N → fr P o m → ∃ x, x < N ∧ fr P o x ∧ ∀ y, y < x → ¬ fr P o y := by
    intro d
    induction d using Nat.strongRecOn with
    | ind d ih =>
      intro m hd h1 h2
      by_cases c : ∃ y, y < m ∧ fr P o y
      · obtain ⟨y, hy, hfy⟩ := c
        exact ih y (by omega) y rfl (by omega) hfy
      · exact ⟨m, h1, h2, fun y hy hfy => c ⟨y, hy, hfy⟩⟩
  exact key m m rfl hm1 hf
section
variable (P : List (Nat × Nat)) (n : Nat) (hP : valid n P) (hn : n ≤ 64) (hl : P.length ≤ 256)
include hP hn hl
/-- One thing is looked at: the edges from `j` on. -/
theorem order_l2_yes (o : List Nat) (t : List Bool) (ht : t.length = n) (hto : ∀ x, T t x ↔ x ∈ o) (ho : o.length < n) (x : Nat) (hx : x < n) (k0 : Nat) (R : Option (List Int × Int))
    (hR : ∀ k, k0 ≤ k → rank_Order.l0 k (n : Int) (P.map mk36) (t.set x true) (o.map (fun i : Nat => (i : Int)) ++ [(x : Int)]) = R) (d : Nat) :
    ∀ (k j : Nat), P.length - j = d → j ≤ P.length → (∀ p ∈ P.drop j, p.2 = x → p.1 ∈ o) → k0 + d < k →
    rank_Order.l2 k (n : Int) (P.map mk36) t (o.map (fun i : Nat => (i : Int))) (x : Int) (n : Int) (x : Int) (P.map mk36) (P.length : Int) (j : Int) = R := by
  induction d with
  | zero =>
    intro k j hd hj h hk
    obtain ⟨k, rfl⟩ : ∃ q, k = q + 1 := ⟨k - 1, by omega⟩
    simp only [rank_Order.l2]
    rw [if_neg (by omega), if_pos (by omega), if_pos (by omega), if_pos (by rw [List.length_map]; omega)]
    exact hR k (by omega)
  | succ d ih =>
    intro k j hd hj h hk
    obtain ⟨k, rfl⟩ : ∃ q, k = q + 1 := ⟨k - 1, by omega⟩
    have hlt : j < P.length := by omega
    have hv := hP _ (List.getElem_mem hlt)
    have e0 : (mk36 P[j]).f0 = ((P[j]).1 : Int) := rfl
    have e1 : (mk36 P[j]).f1 = ((P[j]).2 : Int) := rfl
    simp only [rank_Order.l2]
    rw [if_pos (by omega), if_pos (by omega), if_pos (by rw [List.length_map]; omega), rd36 hlt, e0, e1, wrapS (by omega) (by omega), show ((j : Int) + 1) = ((j + 1 : Nat) : Int) by omega]
    have ed : P.drop j = P[j] :: P.drop (j + 1) := List.drop_eq_getElem_cons hlt
    have hrec := ih k (j + 1) (by omega) (by omega) (fun p hp => h p (by rw [ed]; exact List.mem_cons_of_mem _ hp)) (by omega)
    by_cases c : (P[j]).2 = x
    · have h1 : T t (P[j]).1 := (hto _).2 (h _ (by rw [ed]; exact List.mem_cons_self) c)
      rw [if_pos (by omega), if_pos (by omega), if_pos (by omega), rdT, if_pos (show t.getD _ false = true from h1)]
      exact hrec
    · rw [if_neg (by omega)]
      exact hrec
theorem order_l2_no (o : List Nat) (t : List Bool) (ht : t.length = n) (hto : ∀ x, T t x ↔ x ∈ o) (x : Nat) (hx : x < n) (k0 : Nat) (R : Option (List Int × Int))
    (hR : ∀ k, k0 ≤ k → rank_Order.l1 k (n : Int) (P.map mk36) t (o.map (fun i : Nat => (i : Int))) (n : Int) ((x + 1 : Nat) : Int) = R) (d : Nat) :
    ∀ (k j : Nat), P.length - j = d → j ≤ P.length → (¬ ∀ p ∈ P.drop j, p.2 = x → p.1 ∈ o) → k0 + d < k →
    rank_Order.l2 k (n : Int) (P.map mk36) t (o.map (fun i : Nat => (i : Int))) (x : Int) (n : Int) (x : Int) (P.map mk36) (P.length : Int) (j : Int) = R := by
  induction d with
  | zero =>
    intro k j hd hj h hk
    exact absurd (by rw [List.drop_eq_nil_of_le (by omega)]; simp) h
  | succ d ih =>
    intro k j hd hj h hk
    obtain ⟨k, rfl⟩ : ∃ q, k = q + 1 := ⟨k - 1, by omega⟩
    have hlt : j < P.length := by omega
    have hv := hP _ (List.getElem_mem hlt)
    have e0 : (mk36 P[j]).f0 = ((P[j]).1 : Int) := rfl
    have e1 : (mk36 P[j]).f1 = ((P[j]).2 : Int) := rfl
    simp only [rank_Order.l2]
    rw [if_pos (by omega), if_pos (by omega), if_pos (by rw [List.length_map]; omega), rd36 hlt, e0, e1, wrapS (by omega) (by omega), show ((j : Int) + 1) = ((j + 1 : Nat) : Int) by omega]
    have ed : P.drop j = P[j] :: P.drop (j + 1) := List.drop_eq_getElem_cons hlt
    by_cases c : (P[j]).2 = x
    · rw [if_pos (by omega), if_pos (by omega), if_pos (by omega), rdT]
      by_cases h1 : T t (P[j]).1
      · rw [if_pos (show t.getD _ false = true from h1)]
        refine ih k (j + 1) (by omega) (by omega) ?_ (by omega)
        intro hh
        refine h ?_
        rw [ed]
        intro p hp
        rcases List.mem_cons.1 hp with rfl | hp
        · exact fun _ => (hto _).1 h1
        · exact hh p hp
      · rw [if_neg (show ¬ t.getD _ false = true from h1), wrapS (by omega) (by omega), show ((x : Int) + 1) = ((x + 1 : Nat) : Int) by omega]
        exact hR k (by omega)
    · rw [if_neg (by omega)]
      refine ih k (j + 1) (by omega) (by omega) ?_ (by omega)
      intro hh
      refine h ?_
      rw [ed]
      intro p hp
      rcases List.mem_cons.1 hp with rfl | hp
      · exact fun e => absurd e c
      · exact hh p hp
theorem order_l1 (o : List Nat) (t : List Bool) (ht : t.length = n) (hto : ∀ x, T t x ↔ x ∈ o) (ho : o.length < n) (x : Nat) (hx : x < n) (hf : fr P o x) (hy : ∀ y, y < x → ¬ fr P o y) (k0 : Nat) (R : Option (List Int × Int))
    (hR : ∀ k, k0 ≤ k → rank_Order.l0 k (n : Int) (P.map mk36) (t.set x true) (o.map (fun i : Nat => (i : Int)) ++ [(x : Int)]) = R) (d : Nat) :
    ∀ (k i : Nat), x - i = d → i ≤ x → k0 + 300 * (d + 1) ≤ k →
    rank_Order.l1 k (n : Int) (P.map mk36) t (o.map (fun i : Nat => (i : Int))) (n : Int) (i : Int) = R := by
  induction d with
  | zero =>
    intro k i hd hi hk
    have : i = x := by omega
    subst this
    obtain ⟨k, rfl⟩ : ∃ q, k = q + 1 := ⟨k - 1, by omega⟩
    simp only [rank_Order.l1, List.length_map]
    rw [if_pos (by omega), if_pos (by omega), if_pos (by omega), rdT, if_neg (show ¬ t.getD i false = true from fun h => hf.1 ((hto _).1 h))]
    exact order_l2_yes P n hP hn hl o t ht hto ho i hx k0 R hR P.length k 0 (by omega) (by omega) (by simpa using hf.2) (by omega)
  | succ d ih =>
    intro k i hd hi hk
    obtain ⟨k, rfl⟩ : ∃ q, k = q + 1 := ⟨k - 1, by omega⟩
    simp only [rank_Order.l1, List.length_map]
    rw [if_pos (by omega), if_pos (by omega), if_pos (by omega), rdT]
    by_cases h1 : T t i
    · rw [if_pos (show t.getD _ false = true from h1), wrapS (by omega) (by omega), show ((i : Int) + 1) = ((i + 1 : Nat) : Int) by omega]
      exact ih k (i + 1) (by omega) (by omega) (by omega)
    · rw [if_neg (show ¬ t.getD _ false = true from h1)]
      refine order_l2_no P n hP hn hl o t ht hto i (by omega) (k0 + 300 * (d + 1)) R (fun k hk => ih k (i + 1) (by omega) (by omega) hk) P.length k 0 (by omega) (by omega) ?_ (by omega)
      intro hh
      exact hy i (by omega) ⟨fun hi => h1 ((hto _).2 hi), by simpa using hh⟩
theorem free_l0 (o : List Nat) (t : List Bool) (ht : t.length = n) (hto : ∀ x, T t x ↔ x ∈ o) (x : Nat) (hx : x < n) (d : Nat) :
    ∀ (k j : Nat), P.length - j = d → j ≤ P.length → d < k →
    ∃ b, treenailref09_free.l0 k t (x : Int) (P.map mk47) (P.length : Int) (j : Int) = some b ∧ (b = true ↔ (x ∉ o ∧ ∀ p ∈ P.drop j, p.2 = x → p.1 ∈ o)) := by
  induction d with
  | zero =>
    intro k j hd hj hk
    obtain ⟨k, rfl⟩ : ∃ q, k = q + 1 := ⟨k - 1, by omega⟩
    simp only [treenailref09_free.l0]
    rw [if_neg (by omega), if_pos (by omega), if_pos (by omega), List.drop_eq_nil_of_le (by omega), rdT]
    refine ⟨_, rfl, ?_⟩
    rw [← hto]
    unfold T
    cases t.getD x false <;> simp
  | succ d ih =>
    intro k j hd hj hk
    obtain ⟨k, rfl⟩ : ∃ q, k = q + 1 := ⟨k - 1, by omega⟩
    have hlt : j < P.length := by omega
    have hv := hP _ (List.getElem_mem hlt)
    have e0 : (mk47 P[j]).f0 = ((P[j]).1 : Int) := rfl
    have e1 : (mk47 P[j]).f1 = ((P[j]).2 : Int) := rfl
    simp only [treenailref09_free.l0]
    rw [if_pos (by omega), if_pos (by omega), if_pos (by rw [List.length_map]; omega), rd47 hlt, e0, e1, wrapS (by omega) (by omega), show ((j : Int) + 1) = ((j + 1 : Nat) : Int) by omega]
    have ed : P.drop j = P[j] :: P.drop (j + 1) := List.drop_eq_getElem_cons hlt
    obtain ⟨b, h1, h2⟩ := ih k (j + 1) (by omega) (by omega) (by omega)
    by_cases c : (P[j]).2 = x
    · rw [if_pos (by omega), if_pos (by omega), if_pos (by omega), rdT]
      by_cases h3 : T t (P[j]).1
      · rw [if_pos (show t.getD _ false = true from h3)]
        refine ⟨b, h1, h2.trans ?_⟩
        rw [ed]
        simp only [List.mem_cons, forall_eq_or_imp]
        exact ⟨fun h => ⟨h.1, fun _ => (hto _).1 h3, h.2⟩, fun h => ⟨h.1, h.2.2⟩⟩
      · rw [if_neg (show ¬ t.getD _ false = true from h3)]
        refine ⟨false, rfl, ⟨fun h => absurd h (by simp), fun h => ?_⟩⟩
        exact absurd ((hto _).2 (h.2 P[j] (by rw [ed]; exact List.mem_cons_self) c)) h3
    · rw [if_neg (by omega)]
      refine ⟨b, h1, h2.trans ?_⟩
      rw [ed]
      simp only [List.mem_cons, forall_eq_or_imp]
      exact ⟨fun h => ⟨h.1, fun e => absurd e c, h.2⟩, fun h => ⟨h.1, h.2.2⟩⟩
theorem free (o : List Nat) (t : List Bool) (ht : t.length = n) (hto : ∀ x, T t x ↔ x ∈ o) (x : Nat) (hx : x < n) (k : Nat) (hk : 270 ≤ k) : ∃ b, treenailref09_free.f k (P.map mk47) t (x : Int) = some b ∧ (b = true ↔ fr P o x) := by
  obtain ⟨b, h1, h2⟩ := free_l0 P n hP hn hl o t ht hto x hx P.length k 0 (by omega) (by omega) (by omega)
  refine ⟨b, ?_, by simpa [fr] using h2⟩
  unfold treenailref09_free.f
  rw [List.length_map]
  exact h1
theorem rorder_l1 (o : List Nat) (t : List Bool) (ht : t.length = n) (hto : ∀ x, T t x ↔ x ∈ o) (ho : o.length < n) (x : Nat) (hx : x < n) (hf : fr P o x) (hy : ∀ y, y < x → ¬ fr P o y) (k0 : Nat) (R : Option (List Int × Int))
    (hR : ∀ k, k0 ≤ k → treenailref09_Order.l0 k (n : Int) (P.map mk47) (t.set x true) (o.map (fun i : Nat => (i : Int)) ++ [(x : Int)]) ((o.length + 1 : Nat) : Int) = R) (d : Nat) :
    ∀ (k i : Nat), x - i = d → i ≤ x → k0 + 300 * (d + 1) ≤ k →
    treenailref09_Order.l1 k (n : Int) (P.map mk47) t (o.map (fun i : Nat => (i : Int))) (o.length : Int) (i : Int) = R := by
  induction d with
  | zero =>
    intro k i hd hi hk
    have : i = x := by omega
    subst this
    obtain ⟨k, rfl⟩ : ∃ q, k = q + 1 := ⟨k - 1, by omega⟩
    simp only [treenailref09_Order.l1, List.length_map]
    obtain ⟨b, h1, h2⟩ := free P n hP hn hl o t ht hto i hx k (by omega)
    rw [if_pos (by omega), h1]
    simp only [Option.bind_some]
    rw [if_pos (h2.2 hf), if_pos (by omega), if_pos (by omega), if_pos (by omega), wrapS (by omega) (by omega), show ((o.length : Int) + 1) = ((o.length + 1 : Nat) : Int) by omega]
    exact hR k (by omega)
  | succ d ih =>
    intro k i hd hi hk
    obtain ⟨k, rfl⟩ : ∃ q, k = q + 1 := ⟨k - 1, by omega⟩
    simp only [treenailref09_Order.l1, List.length_map]
    obtain ⟨b, h1, h2⟩ := free P n hP hn hl o t ht hto i (by omega) k (by omega)
    rw [if_pos (by omega), h1]
    simp only [Option.bind_some]
    rw [if_neg (fun h => hy i (by omega) (h2.1 h)), wrapS (by omega) (by omega), show ((i : Int) + 1) = ((i + 1 : Nat) : Int) by omega]
    exact ih k (i + 1) (by omega) (by omega) (by omega)
theorem order_l0 (nr : ∀ i, i < n → ¬ run P i i) (d : Nat) : ∀ (o : List Nat) (t : List Bool), Built P n o → t.length = n → (∀ x, T t x ↔ x ∈ o) → n - o.length = d → o.length ≤ n →
    ∃ o', Built P n o' ∧ o'.length = n ∧ ∀ k, 1 + d * 20000 ≤ k → rank_Order.l0 k (n : Int) (P.map mk36) t (o.map (fun i : Nat => (i : Int))) = some (o'.map (fun i : Nat => (i : Int)), 0) ∧
      treenailref09_Order.l0 k (n : Int) (P.map mk47) t (o.map (fun i : Nat => (i : Int))) (o.length : Int) = some (o'.map (fun i : Nat => (i : Int)), 0) := by
  induction d with
  | zero =>
    intro o t hb ht hto hd ho
    refine ⟨o, hb, by omega, ?_⟩
    intro k hk
    obtain ⟨k, rfl⟩ : ∃ q, k = q + 1 := ⟨k - 1, by omega⟩
    simp only [rank_Order.l0, treenailref09_Order.l0, List.length_map]
    rw [if_neg (by omega), if_neg (by omega)]
    exact ⟨rfl, rfl⟩
  | succ d ih =>
    intro o t hb ht hto hd ho
    obtain ⟨x, hx, hf, hy⟩ := free_ex hP nr (o := o) (by omega)
    have hto' : ∀ y, T (t.set x true) y ↔ y ∈ o ++ [x] := by
      intro y
      rw [T_set (by omega), hto]
      simp only [List.mem_append, List.mem_singleton]
      exact Or.comm
    obtain ⟨o', h1, h2, h3⟩ := ih (o ++ [x]) (t.set x true) (hb.add hx hf) (by simpa using ht) hto' (by simp; omega) (by simp; omega)
    refine ⟨o', h1, h2, ?_⟩
    intro k hk
    obtain ⟨k, rfl⟩ : ∃ q, k = q + 1 := ⟨k - 1, by omega⟩
    simp only [rank_Order.l0, treenailref09_Order.l0, List.length_map]
    rw [if_pos (by omega), if_pos (by omega)]
    constructor
    · exact order_l1 P n hP hn hl o t ht hto (by omega) x hx hf hy (1 + d * 20000) _ (fun k hk => by simpa using (h3 k hk).1) x k 0 (by omega) (by omega) (by omega)
    · exact rorder_l1 P n hP hn hl o t ht hto (by omega) x hx hf hy (1 + d * 20000) _ (fun k hk => by simpa using (h3 k hk).2) x k 0 (by omega) (by omega) (by omega)
end
theorem roundL_nil (P : List (Nat × Nat)) (N : Nat) : roundL P N = [] ↔ ∀ i, i < N → ¬ run P i i := by
  unfold roundL
  rw [List.map_eq_nil_iff, List.filter_eq_nil_iff]
  constructor
  · intro h i hi hr
    exact h i (by simpa using hi) ((rndB_iff P i).2 hr)
  · intro h i hi hr
    exact h i (by simpa using hi) ((rndB_iff P i).1 hr)
/-- Orders: the program's, and the document's. -/
theorem jorder (n : Int) (E : List S36) (k : Nat) (hk : 1300000 ≤ k) :
    (chk n E ≠ 0 ∧ rank_Order.f k n E = some ([], chk n E) ∧ treenailref09_Order.f k n (E.map conv) = some ([], chk n E) ∧ rank_Round.f k n E = some ([], chk n E)) ∨
    (∃ (N : Nat) (P : List (Nat × Nat)), n = (N : Int) ∧ N ≤ 64 ∧ P.length ≤ 256 ∧ E = P.map mk36 ∧ valid N P ∧ rank_Round.f k n E = some (roundL P N, 0) ∧
      ((roundL P N ≠ [] ∧ rank_Order.f k n E = some ([], 7) ∧ treenailref09_Order.f k n (E.map conv) = some ([], 7)) ∨
       (roundL P N = [] ∧ ∃ o, Built P N o ∧ o.length = N ∧ rank_Order.f k n E = some (o.map (fun i : Nat => (i : Int)), 0) ∧ treenailref09_Order.f k n (E.map conv) = some (o.map (fun i : Nat => (i : Int)), 0)))) := by
  rcases jround n E k (by omega) with ⟨h4, N, P, rfl, hN, hPl, rfl, h5, hP, h7, h8, h9⟩ | ⟨h4, h8, h9⟩
  · right
    refine ⟨N, P, rfl, hN, hPl, rfl, hP, h8, ?_⟩
    by_cases c : roundL P N = []
    · right
      refine ⟨c, ?_⟩
      obtain ⟨o, h1, h2, h3⟩ := order_l0 P N hP hN hPl ((roundL_nil P N).1 c) N [] (List.replicate N false) ⟨by simp, by simp, by simp⟩ (by simp) (fun x => by simp [T_rep]) (by simp) (by simp)
      refine ⟨o, h1, h2, ?_, ?_⟩
      · unfold rank_Order.f
        rw [h8, c]
        simp only [Option.bind_some, if_true]
        rw [if_neg (by simp), if_pos (by omega), if_pos (by omega)]
        exact (h3 k (by omega)).1
      · unfold treenailref09_Order.f
        rw [h9, c, h5]
        simp only [Option.bind_some, if_true]
        rw [if_neg (by simp), if_pos (by omega), if_pos (by omega)]
        exact (h3 k (by omega)).2
    · left
      have hp : ((roundL P N).length : Int) > 0 := by
        have := List.length_pos_iff.2 c
        omega
      refine ⟨c, ?_, ?_⟩
      · unfold rank_Order.f
        rw [h8]
        simp only [Option.bind_some, if_true]
        rw [if_pos hp]
      · unfold treenailref09_Order.f
        rw [h9]
        simp only [Option.bind_some, if_true]
        rw [if_pos hp]
  · left
    refine ⟨h4, ?_, ?_, h8⟩
    · unfold rank_Order.f
      rw [h8]
      simp only [Option.bind_some]
      rw [if_neg h4]
    · unfold treenailref09_Order.f
      rw [h9]
      simp only [Option.bind_some]
      rw [if_neg h4]
end Go.Proofs.Ytfblajilalcnkaa.B
