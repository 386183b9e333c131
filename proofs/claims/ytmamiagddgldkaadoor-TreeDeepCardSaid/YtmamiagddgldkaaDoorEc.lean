/- The words of a machine on plain data, and that the program does what this machine does. -/
import Derived.Test.YtmamiagddgldkaaDoorEb
import Derived.Control
import Derived.Deep.LoopGhost
namespace Go.Eng
open Go.RowKit
set_option linter.unusedVariables false
set_option linter.unusedSimpArgs false

def SR (B : Base) (T : List A) (H : Heap) (a : Act) (w : World) : Prop := a.defers = [] ∧ SRel B T H a.tmps w

def OpW (E : Env) (T : List A) (H : Heap) (o : Oper) (v : A) (H' : Heap) : Prop :=
  ∀ (B : Base) (a : Act) (w : World) (K : Act → World → Prop) (Q : Exit → Act → World → Prop), B.ok E → SR B T H a w → (∀ a' w', SR B (putT T o.dst v) H' a' w' → K a' w') → o.wp E.P a w K Q

theorem Yld.w {E : Env} {T : List A} {H : Heap} {o : Oper} {v : A} {H' : Heap} (h : Yld E T H o v H') : OpW E T H o v H' := by
  intro B a w K Q hB hs hk
  obtain ⟨hd, x, O, rfl, hR, hT⟩ := hs
  obtain ⟨n, v', w', h1, h2, y, O', rfl, hle, hR', hv⟩ := h B x O a hB hR hT
  have hk' : K (a.put o.dst v') y.w := hk _ _ ⟨by cases hdst : o.dst <;> simp [Act.put, hd], y, O', rfl, hR', (hT.mono hle).put o.dst hv⟩
  unfold Oper.wp
  rw [h1]
  rcases h2 with rfl | ⟨rfl, rfl⟩
  · exact hk'
  · exact hk'

def isCall : Op → Bool
  | .call { callee := .value _, .. } => true
  | _ => false

def CallK (E : Env) (T : List A) (H : Heap) (o : Oper) (K : A → Heap → Prop) : Prop := ∃ v H', OpW E T H o v H' ∧ K v H'

def dstOf : List (Option Nat) → Nat → Option Nat
  | [], _ => none
  | d :: _, 0 => d
  | _ :: l, j + 1 => dstOf l j

def dsts : List Oper → List (Option Nat)
  | [] => []
  | o :: l => o.dst :: dsts l

def eqW : Bool → Bool → Bool
  | b, true => b
  | b, false => !b

theorem eqW_eq (b w : Bool) : eqW b w = (b == w) := by cases b <;> cases w <;> rfl

def truth : A → Bool → Option Bool
  | .c (.d (.sc (.bool b))), w => some (eqW b w)
  | .und, _ => some false
  | _, _ => none

def wantA (ds : List (Option Nat)) (T : List A) : Option (Nat × Bool) → Option Bool
  | none => some true
  | some (j, w) => match dstOf ds j with
    | some d => truth (gT T d) w
    | none => none

def GdP (w : Option Bool) (run skip : Prop) : Prop := match w with | some b => (b = true → run) ∧ (b = false → skip) | none => False
def OrP : Bool → Prop → Prop → Prop
  | true, x, _ => x
  | false, _, y => y
def ResP (r : Option (A × Heap)) (K : A → Heap → Prop) : Prop := match r with | some (v, H) => K v H | none => False

def AOps (E : Env) (ds : List (Option Nat)) : List Oper → List A → Heap → (List A → Heap → Prop) → Prop
  | [], T, H, Q => Q T H
  | o :: l, T, H, Q => GdP (wantA ds T o.guard)
      (OrP (isCall o.op) (CallK E T H o fun v H' => AOps E ds l (putT T o.dst v) H' Q) (ResP (aop E T H o.op) fun v H' => AOps E ds l (putT T o.dst v) H' Q))
      (AOps E ds l (putT T o.dst .und) H Q)

def Res (r : Option (A × Heap)) (E : Env) (ds : List (Option Nat)) (d : Option Nat) (l : List Oper) (T : List A) (Q : List A → Heap → Prop) : Prop := ResP r fun v H' => AOps E ds l (putT T d v) H' Q
def St (b : Bool) (E : Env) (ds : List (Option Nat)) (o : Oper) (l : List Oper) (T : List A) (H : Heap) (Q : List A → Heap → Prop) : Prop :=
  OrP b (CallK E T H o fun v H' => AOps E ds l (putT T o.dst v) H' Q) (ResP (aop E T H o.op) fun v H' => AOps E ds l (putT T o.dst v) H' Q)
def Gd (w : Option Bool) (E : Env) (ds : List (Option Nat)) (o : Oper) (l : List Oper) (T : List A) (H : Heap) (Q : List A → Heap → Prop) : Prop :=
  GdP w (St (isCall o.op) E ds o l T H Q) (AOps E ds l (putT T o.dst .und) H Q)

theorem dstOf_eq : ∀ (ops : List Oper) (j : Nat), dstOf (dsts ops) j = (ops[j]?).bind (·.dst)
  | [], _ => by simp [dstOf, dsts]
  | o :: _, 0 => by simp [dstOf, dsts]
  | _ :: l, j + 1 => by simp [dstOf, dsts, dstOf_eq l j]

theorem wantA_ok {x : Ctx} {T : List A} {a : Act} {ops : Array Oper} {o : Oper} {b : Bool} (hT : TR x T a.tmps) (h : wantA (dsts ops.toList) T o.guard = some b) : Region.wanted o (yielded ops a.tmps) = b := by
  unfold wantA at h
  unfold Region.wanted
  split at h
  · rename_i hg; rw [hg]; cases h; rfl
  · rename_i j w hg
    rw [hg]
    split at h
    · rename_i d hd
      rw [dstOf_eq, Array.getElem?_toList] at hd
      show (yielded ops a.tmps j == some w) = b
      unfold yielded
      rw [hd]
      have hget := hT.get d
      simp only [Option.bind_some]
      unfold truth at h
      split at h
      · rename_i bb heq
        cases h
        rw [heq] at hget
        have hv : a.tmps.getD d undef = .bool bb := by
          generalize a.tmps.getD d undef = u at hget
          cases hget with | c _ _ hh => cases hh with | d _ _ hh => cases hh with | sc _ _ => rfl
        have hlt : a.tmps[d]? = some (.bool bb) := by
          rw [Array.getD_eq_getD_getElem?] at hv
          cases hq : a.tmps[d]? with
          | none => rw [hq] at hv; cases hv
          | some u => rw [hq] at hv; simp at hv; rw [hv]
        rw [hlt]
        simp [eqW_eq]
      · rename_i heq
        cases h
        rw [heq] at hget
        have hv : a.tmps.getD d undef = undef := by
          generalize a.tmps.getD d undef = u at hget
          cases hget; rfl
        rw [Array.getD_eq_getD_getElem?] at hv
        cases hq : a.tmps[d]? with
        | none => rfl
        | some u => rw [hq] at hv; simp at hv; rw [hv]; rfl
      · cases h
    · cases h

theorem AOps.ok {E : Env} {B : Base} {ops : Array Oper} {Q : List A → Heap → Prop} {Q' : Exit → Act → World → Prop} (hB : B.ok E)
    (hQ : ∀ T H a w, Q T H → SR B T H a w → Q' .normal a w) : ∀ (n k : Nat) (T : List A) (H : Heap) (a : Act) (w : World), n + k = ops.size →
    AOps E (dsts ops.toList) (ops.toList.drop k) T H Q → SR B T H a w → wpOps E.P ops Q' (List.range' k n) a w
  | 0, k, T, H, a, w, hn, h, hs => by
    rw [List.drop_eq_nil_of_le (by simp; omega)] at h
    exact hQ T H a w h hs
  | n + 1, k, T, H, a, w, hn, h, hs => by
    have hlt : k < ops.toList.length := by simp; omega
    rw [List.drop_eq_getElem_cons hlt] at h
    have hget : ops[k]? = some ops.toList[k] := by simp at hlt; simp [hlt]
    obtain ⟨hd, x, O, rfl, hR, hT⟩ := hs
    simp only [List.range'_succ, wpOps, hget]
    simp only [AOps] at h
    cases hb : wantA (dsts ops.toList) T (ops.toList[k]).guard with
    | some b =>
      rw [hb] at h
      simp only [GdP] at h
      have hw := wantA_ok hT hb
      rw [hw]
      cases b
      · have h := h.2 rfl
        simp only [Bool.false_eq_true, if_false]
        exact AOps.ok hB hQ n (k + 1) _ H _ _ (by omega) h ⟨by cases hdst : (ops.toList[k]).dst <;> simp [Act.put, hd], x, O, rfl, hR, hT.put _ .und⟩
      · have h := h.1 rfl
        simp only [if_true]
        left
        have key : ∃ v H', OpW E T H (ops.toList[k]) v H' ∧ AOps E (dsts ops.toList) (ops.toList.drop (k + 1)) (putT T (ops.toList[k]).dst v) H' Q := by
          cases hc : isCall (ops.toList[k]).op with
          | true => rw [hc] at h; exact h
          | false =>
            rw [hc] at h
            simp only [OrP] at h
            cases hv : aop E T H (ops.toList[k]).op with
            | some r =>
              rw [hv] at h
              simp only [ResP] at h
              exact ⟨r.1, r.2, (aop_ok hv).w, h⟩
            | none => rw [hv] at h; exact h.elim
        obtain ⟨v, H', hop, hrest⟩ := key
        exact hop B a x.w _ _ hB ⟨hd, x, O, rfl, hR, hT⟩ (fun a' w' hs' => AOps.ok hB hQ n (k + 1) _ H' a' w' (by omega) hrest hs')
    | none => rw [hb] at h; exact h.elim

def AWP (E : Env) (c : Code) (T : List A) (H : Heap) (Q : Exit → List A → Heap → Prop) (m : Nat) : Prop :=
  ∀ (B : Base) (a : Act) (w : World), B.ok E → B.x.L = m → SR B T H a w → c.wp E.P (fun e a' w' => ∃ T' H', Q e T' H' ∧ SR B T' H' a' w') a w

section
variable {E : Env} {T : List A} {H : Heap} {Q : Exit → List A → Heap → Prop} {m : Nat}

theorem awp_region {id : Nat} {ops : Array Oper} (h : AOps E (dsts ops.toList) ops.toList T H (Q .normal)) : AWP E (.region id ops false) T H Q m := by
  intro B a w hB _ hs
  refine wp_region ?_
  rw [List.range_eq_range']
  exact AOps.ok hB (fun T H a w hq hs => ⟨T, H, hq, hs⟩) ops.size 0 T H a w (by simp) (by simpa using h) hs

theorem awp_skip (h : Q .normal T H) : AWP E .skip T H Q m := fun B a w hB _ hs => wp_skip ⟨T, H, h, hs⟩
theorem awp_ret (h : Q .ret T H) : AWP E .ret T H Q m := fun B a w hB _ hs => wp_ret ⟨T, H, h, hs⟩
theorem awp_exit {id : Nat} (h : Q (.exit id) T H) : AWP E (.exit id) T H Q m := fun B a w hB _ hs => wp_exit ⟨T, H, h, hs⟩

def Sq (next : List A → Heap → Prop) (Q : Exit → List A → Heap → Prop) : Exit → List A → Heap → Prop
  | .normal, T, H => next T H
  | e, T, H => Q e T H

theorem awp_seq {x y : Code} (h : AWP E x T H (Sq (fun T' H' => AWP E y T' H' Q m) Q) m) : AWP E (.seq x y) T H Q m := by
  intro B a w hB hm hs
  refine wp_seq (wp_mono (h B a w hB hm hs) ?_)
  rintro e a' w' ⟨T', H', hq, hs'⟩
  cases e with
  | normal => exact hq B a' w' hB hm hs'
  | _ => exact ⟨T', H', hq, hs'⟩

def Bk (id : Nat) (Q : Exit → List A → Heap → Prop) : Exit → List A → Heap → Prop
  | .exit i, T, H => if i = id then Q .normal T H else Q (.exit i) T H
  | e, T, H => Q e T H

theorem awp_block {id : Nat} {c : Code} (h : AWP E c T H (Bk id Q) m) : AWP E (.block id c) T H Q m := by
  intro B a w hB hm hs
  refine wp_block (wp_mono (h B a w hB hm hs) ?_)
  rintro e a' w' ⟨T', H', hq, hs'⟩
  cases e with
  | exit i =>
    simp only [Bk] at hq
    simp only [Exit.inBlock]
    split
    · rename_i e; rw [if_pos e] at hq; exact ⟨T', H', hq, hs'⟩
    · rename_i e; rw [if_neg e] at hq; exact ⟨T', H', hq, hs'⟩
  | _ => exact ⟨T', H', hq, hs'⟩

theorem awp_cond {c : Operand} {x y : Code} {b : Bool} (hc : ofBool (ev E T c) = some b) (h1 : b = true → AWP E x T H Q m) (h2 : b = false → AWP E y T H Q m) : AWP E (.cond c x y) T H Q m := by
  intro B a w hB hm hs
  obtain ⟨hd, x', O, rfl, hR, hT⟩ := hs
  have hv := ofBool_eq hc (hT.eval (fun g => hR.glob hB g) c)
  refine wp_cond hv ?_
  cases b
  · exact h2 rfl B a x'.w hB hm ⟨hd, x', O, rfl, hR, hT⟩
  · exact h1 rfl B a x'.w hB hm ⟨hd, x', O, rfl, hR, hT⟩

theorem awp_mono {c : Code} {Q' : Exit → List A → Heap → Prop} (h : AWP E c T H Q m) (hq : ∀ e T H, Q e T H → Q' e T H) : AWP E c T H Q' m :=
  fun B a w hB hm hs => wp_mono (h B a w hB hm hs) (fun e a' w' ⟨T', H', h1, h2⟩ => ⟨T', H', hq _ _ _ h1, h2⟩)

def Wk (m : Nat) (T : List A) (H : Heap) (T' : List A) (H' : Heap) : Prop := ∀ (B : Base) (a : Act) (w : World), B.x.L = m → SR B T H a w → SR B T' H' a w

theorem awp_wk {c : Code} {T' : List A} {H' : Heap} (hw : Wk m T H T' H') (h : AWP E c T' H' Q m) : AWP E c T H Q m :=
  fun B a w hB hm hs => h B a w hB hm (hw B a w hm hs)

theorem awp_loop {α : Type} {c : Code} (I : α → Prop) (S : α → List A × Heap) (μ : α → Nat) (i0 : α) (h0 : I i0) (hs0 : Wk m T H (S i0).1 (S i0).2)
    (round : ∀ i, I i → AWP E c (S i).1 (S i).2 (Sq (fun T' H' => ∃ j, I j ∧ μ j < μ i ∧ Wk m T' H' (S j).1 (S j).2) Q) m) : AWP E (.loop c) T H Q m := by
  intro B a w hB hm hs
  refine wp_loop_ghost (fun n a' w' => ∃ i, μ i = n ∧ I i ∧ SR B (S i).1 (S i).2 a' w') (μ i0) ⟨i0, rfl, h0, hs0 B a w hm hs⟩ ?_
  rintro n a w ⟨i, rfl, hi, hsi⟩
  refine wp_mono (round i hi B a w hB hm hsi) ?_
  rintro e a' w' ⟨T', H', hq, hs'⟩
  cases e with
  | normal =>
    obtain ⟨j, hj, hlt, hw⟩ := hq
    exact ⟨μ j, hlt, j, rfl, hj, hw B a' w' hm hs'⟩
  | _ => exact ⟨T', H', hq, hs'⟩

end
end Go.Eng
namespace Go.Eng
open Go.RowKit
set_option linter.unusedVariables false
set_option linter.unusedSimpArgs false


def LeA : A → A → Prop
  | _, .any => True
  | a, b => a = b

def LeT : List A → List A → Prop
  | [], [] => True
  | a :: l, b :: l' => LeA a b ∧ LeT l l'
  | _, _ => False

def LeB : Option Blk → Option Blk → Prop
  | _, none => True
  | a, b => a = b

def LeH : Heap → Heap → Prop
  | [], [] => True
  | a :: l, b :: l' => LeB a b ∧ LeH l l'
  | _, _ => False

theorem LeA.ok {x : Ctx} {a b : A} {v : Value} (h : LeA a b) (hv : VA x a v) : VA x b v := by
  unfold LeA at h
  split at h
  · exact .any v
  · rw [← h]; exact hv

theorem LeT.ok : ∀ {T T' : List A}, LeT T T' → T.length = T'.length ∧ ∀ (i : Nat) b, T'[i]? = some b → ∃ a, T[i]? = some a ∧ LeA a b
  | [], [], _ => ⟨rfl, fun i b h => by simp at h⟩
  | [], _ :: _, h => h.elim
  | _ :: _, [], h => h.elim
  | a :: l, b :: l', h => by
    obtain ⟨h1, h2⟩ := LeT.ok h.2
    refine ⟨by simp [h1], fun i c hc => ?_⟩
    cases i with
    | zero => cases hc; exact ⟨a, rfl, h.1⟩
    | succ i => exact h2 i c (by simpa using hc)

theorem LeH.ok : ∀ {H H' : Heap}, LeH H H' → H.length = H'.length ∧ ∀ (i : Nat) b, H'[i]? = some (some b) → H[i]? = some (some b)
  | [], [], _ => ⟨rfl, fun i b h => by simp at h⟩
  | [], _ :: _, h => h.elim
  | _ :: _, [], h => h.elim
  | a :: l, b :: l', h => by
    obtain ⟨h1, h2⟩ := LeH.ok h.2
    refine ⟨by simp [h1], fun i c hc => ?_⟩
    cases i with
    | zero =>
      cases hc
      have := h.1
      unfold LeB at this
      split at this
      · simp_all
      · rw [this]; rfl
    | succ i => exact h2 i c (by simpa using hc)

theorem Rel.sub {B : Base} {x : Ctx} {O : Nat → Nat → Prop} {H H' : Heap} (hR : Rel B x O H) (hl : H.length = H'.length) (h : ∀ (i : Nat) b, H'[i]? = some (some b) → H[i]? = some (some b)) :
    ∃ y, y.w = x.w ∧ x.Le y ∧ Rel B y O H' := by
  let y : Ctx := { w := x.w, F := x.F, μ := x.μ, N := nOf H', L := x.L }
  have hN : ∀ id p, nOf H' id = some p → x.N id = some p := fun id p hp => by
    obtain ⟨b, hb, hn⟩ := nOf_inv hp
    rw [hR.hN, nOf_some (h id b hb), hn]
  have hle : x.Le y := ⟨fun k hk => ⟨hk, rfl⟩, Nat.le_refl _, Nat.le_refl _, fun id _ s m hm => ⟨m, hN _ _ hm, Nat.le_refl _, fun _ => ⟨rfl, fun _ _ _ => rfl⟩⟩⟩
  exact ⟨y, rfl, hle, ⟨by show x.L = _; rw [← hl]; exact hR.hL, fun _ => rfl, hR.le.trans hle, hR.os, hR.tape, hR.output, hR.keep, hR.own, hR.fr, hR.disj, hR.nof, fun id b hb => (hR.blk id b (h id b hb)).mono hle rfl (fun _ h => h) (fun _ _ => rfl)⟩⟩

theorem wk_le {m : Nat} {T T' : List A} {H H' : Heap} (h1 : LeT T T') (h2 : LeH H H') : Wk m T H T' H' := by
  intro B a w hm hs
  obtain ⟨hd, x, O, rfl, hR, hT⟩ := hs
  obtain ⟨q1, q2⟩ := h1.ok
  obtain ⟨q3, q4⟩ := h2.ok
  obtain ⟨y, e1, l1, R1⟩ := hR.sub q3 q4
  refine ⟨hd, y, O, e1, R1, by rw [hT.1, q1], fun i b hb => ?_⟩
  obtain ⟨a', ha, hle⟩ := q2 i b hb
  obtain ⟨u, hu, hv⟩ := hT.2 i a' ha
  exact ⟨u, hu, hle.ok (hv.mono l1)⟩

theorem Wk.trans {m : Nat} {T T' T'' : List A} {H H' H'' : Heap} (h : Wk m T H T' H') (k : Wk m T' H' T'' H'') : Wk m T H T'' H'' :=
  fun B a w hm hs => k B a w hm (h B a w hm hs)


mutual
def okC (k : Nat) : C → Bool
  | .own id _ _ _ => decide (id < k)
  | .ptr id _ _ _ => decide (id < k)
  | .clo _ cs => okCs k cs
  | _ => true
def okCs (k : Nat) : List C → Bool
  | [] => true
  | c :: l => okC k c && okCs k l
end

def cutCell (k : Nat) (c : C) : C := if okC k c = true then c else .any

def cutCells (k : Nat) : List C → List C
  | [] => []
  | c :: l => cutCell k c :: cutCells k l

def cutA (k : Nat) : A → A
  | .c c => .c (cutCell k c)
  | .agg cs => .agg (cutCells k cs)
  | .tup _ => .any
  | .und => .und
  | .any => .any

def cutT (k : Nat) : List A → List A
  | [] => []
  | a :: l => cutA k a :: cutT k l

def cutB (k : Nat) : Option Blk → Option Blk
  | some (.box cs ty) => some (.box (cutCells k cs) ty)
  | b => b

def cutH (k : Nat) : Nat → Heap → Heap
  | 0, _ => []
  | n + 1, b :: l => cutB k b :: cutH k n l
  | _ + 1, [] => []

theorem okCs_mem {k : Nat} : ∀ {l : List C}, okCs k l = true → ∀ c ∈ l, okC k c = true
  | [], _, c, h => by simp at h
  | a :: l, h, c, hc => by
    simp only [okCs, Bool.and_eq_true] at h
    rcases List.mem_cons.1 hc with rfl | hc
    · exact h.1
    · exact okCs_mem h.2 c hc

theorem VR.cut {x y : Ctx} {k : Nat} (hw : y.w = x.w) (hF : y.F = x.F) (hμ : y.μ = x.μ) (hL : y.L = k) (hN : ∀ id, id < k → y.N id = x.N id) {c : C} {v : Value} (h : VR x c v) : okC k c = true → VR y c v := by
  induction h with
  | d d v hd => intro _; exact .d d v (by rw [hw, hF]; exact hd)
  | nils => intro _; exact .nils
  | own id off len n v h =>
    intro hk
    simp only [okC, decide_eq_true_eq] at hk
    refine .own _ _ _ _ _ ⟨h.1, by rw [hL]; exact hk, fun s m hm => ?_⟩
    rw [hN id hk] at hm
    have := h.2.2 s m hm
    rw [hμ, hw]
    exact this
  | ptr id j off n v h =>
    intro hk
    simp only [okC, decide_eq_true_eq] at hk
    refine .ptr _ _ _ _ _ ⟨h.1, by rw [hL]; exact hk, fun s m hm => ?_⟩
    rw [hN id hk] at hm
    have := h.2.2 s m hm
    rw [hμ]
    exact this
  | pf cells off b o h1 h2 => intro _; exact .pf cells off b o (by rw [hF]; exact h1) (by rw [hw, hF]; exact h2)
  | pa rows b o s h1 h2 h3 => intro _; exact .pa rows b o s (by rw [hF]; exact h1) h2 (by rw [hw, hF]; exact h3)
  | clo fn caps vs u hl hu hv ih =>
    intro hk
    simp only [okC] at hk
    exact .clo fn caps vs u hl hu (fun i c hc => ih i c hc (okCs_mem hk c (List.mem_of_getElem? hc)))
  | any v h => intro _; exact .any v h

theorem VR.cutCell {x y : Ctx} {k : Nat} (hw : y.w = x.w) (hF : y.F = x.F) (hμ : y.μ = x.μ) (hL : y.L = k) (hN : ∀ id, id < k → y.N id = x.N id) {c : C} {v : Value} (h : VR x c v) : VR y (Eng.cutCell k c) v := by
  unfold Eng.cutCell
  split
  · rename_i hk; exact h.cut hw hF hμ hL hN hk
  · exact .any v h.one

theorem cutCells_eq (k : Nat) : ∀ l : List C, cutCells k l = l.map (cutCell k)
  | [] => rfl
  | c :: l => by simp [cutCells, cutCells_eq k l]

theorem cutT_eq (k : Nat) : ∀ l : List A, cutT k l = l.map (cutA k)
  | [] => rfl
  | c :: l => by simp [cutT, cutT_eq k l]

theorem cutH_get (k : Nat) : ∀ (n : Nat) (H : Heap), n ≤ H.length → (cutH k n H).length = n ∧ ∀ i, (cutH k n H)[i]? = if i < n then (H[i]?).map (cutB k) else none
  | 0, H, _ => ⟨rfl, fun i => by simp [cutH]⟩
  | n + 1, [], h => by simp at h
  | n + 1, b :: l, h => by
    obtain ⟨h1, h2⟩ := cutH_get k n l (by simpa using h)
    refine ⟨by simp [cutH, h1], fun i => ?_⟩
    cases i with
    | zero => simp [cutH]
    | succ i => simp [cutH, h2 i]

theorem wk_cut {m k : Nat} {T : List A} {H : Heap} (hmk : m ≤ k) (hk : k ≤ H.length) : Wk m T H (cutT k T) (cutH k k H) := by
  intro B a w hm hs
  obtain ⟨hd, x, O, rfl, hR, hT⟩ := hs
  obtain ⟨q1, q2⟩ := cutH_get k k H hk
  let y : Ctx := { w := x.w, F := x.F, μ := x.μ, N := nOf (cutH k k H), L := k }
  have hNk : ∀ id, id < k → y.N id = x.N id := fun id hid => by
    rw [hR.hN]
    show nOf (cutH k k H) id = _
    unfold nOf
    rw [q2 id, if_pos hid]
    cases hH : H[id]? with
    | none => rfl
    | some b =>
      cases b with
      | none => rfl
      | some b => cases b <;> rfl
  have hNge : ∀ id, k ≤ id → y.N id = none := fun id hid => by
    show nOf (cutH k k H) id = none
    unfold nOf
    rw [q2 id, if_neg (by omega)]
  have hc : ∀ {c : C} {v : Value}, VR x c v → VR y (cutCell k c) v := fun h => VR.cutCell (x := x) (y := y) (k := k) rfl rfl rfl rfl hNk h
  have hcs : ∀ {cs : List C} {vs : Array Value}, CsR x cs vs → CsR y (cutCells k cs) vs := fun h => by
    refine ⟨by rw [cutCells_eq]; simpa using h.1, fun i c hi => ?_⟩
    rw [cutCells_eq, List.getElem?_map, Option.map_eq_some_iff] at hi
    obtain ⟨c', hc', rfl⟩ := hi
    obtain ⟨u, hu, hv⟩ := h.2 i c' hc'
    exact ⟨u, hu, hc hv⟩
  refine ⟨hd, y, O, rfl, ⟨by show k = _; rw [q1], fun _ => rfl, ?_, hR.os, hR.tape, hR.output, hR.keep, hR.own, hR.fr, hR.disj, hR.nof, fun id b hb => ?_⟩, ?_⟩
  · refine ⟨hR.le.F, hR.le.size, by show B.x.L ≤ k; omega, fun id hid s n hn => ?_⟩
    have hid' : id < k := by omega
    rw [hNk id hid'] at hn
    exact hR.le.N id hid s n hn
  · rw [q2 id] at hb
    split at hb
    · rename_i hid
      rw [Option.map_eq_some_iff] at hb
      obtain ⟨b', hb', he⟩ := hb
      cases b' with
      | none => simp [cutB] at he
      | some b' =>
        have hB := hR.blk id b' hb'
        cases b' with
        | box cs =>
          simp only [cutB, Option.some.injEq] at he
          subst he
          obtain ⟨g, vs, t, h1, h2, h3, h4⟩ := hB
          exact ⟨g, vs, t, h1, h2, h3, hcs h4⟩
        | rows s rs =>
          simp only [cutB, Option.some.injEq] at he
          subst he
          exact hB
        | mp es =>
          simp only [cutB, Option.some.injEq] at he
          subst he
          exact hB
        | raw r =>
          simp only [cutB, Option.some.injEq] at he
          subst he
          exact hB
    · cases hb
  · rw [cutT_eq]
    refine ⟨by simpa using hT.1, fun i b hb => ?_⟩
    rw [List.getElem?_map, Option.map_eq_some_iff] at hb
    obtain ⟨a', ha, rfl⟩ := hb
    obtain ⟨u, hu, hv⟩ := hT.2 i a' ha
    refine ⟨u, hu, ?_⟩
    cases hv with
    | c c v h => exact .c _ _ (hc h)
    | agg cs vs h => exact .agg _ _ (hcs h)
    | tup => exact .any _
    | und => exact .und
    | any => exact .any _


def fzA (H : Heap) : A → Option (A × Heap)
  | .c c => match toD H c with | some (d, H') => some (.c (.d d), H') | none => none
  | _ => none

theorem wk_fz {m i : Nat} {T : List A} {H H' : Heap} {a' : A} (h : fzA H (gT T i) = some (a', H')) : Wk m T H (pT T i a') H' := by
  intro B a w hm hs
  obtain ⟨hd, x, O, rfl, hR, hT⟩ := hs
  unfold fzA at h
  split at h
  · rename_i c hc
    split at h
    · rename_i d H1 h1
      cases h
      have hv := VA.inv (hc ▸ hT.get i)
      obtain ⟨y, O', e1, l1, R1, D1⟩ := toD_ok hR hv h1
      refine ⟨hd, y, O', e1, R1, by rw [pT_length]; exact hT.1, fun j b hb => ?_⟩
      rw [pT_eq, List.getElem?_set] at hb
      split at hb
      · rename_i e
        split at hb
        · rename_i hlt
          cases hb
          subst e
          have hlt' : i < a.tmps.size := by rw [hT.1]; exact hlt
          refine ⟨a.tmps.getD i undef, ?_, .c _ _ (.d _ _ D1)⟩
          simp [Array.getD_eq_getD_getElem?, hlt']
        · cases hb
      · obtain ⟨u, hu, hv⟩ := hT.2 j b hb
        exact ⟨u, hu, hv.mono l1⟩
    · cases h
  · cases h


theorem wk_virt {m i s : Nat} {T : List A} {H : Heap} (ty : Option TypeId) (hs : 0 < s) (h : gT T i = .c .nils) : Wk m T H (pT T i (.c (.own H.length 0 0 0))) (H ++ [some (.rows s [] ty)]) := by
  intro B a w hm hsr
  obtain ⟨hd, x, O, rfl, hR, hT⟩ := hsr
  have hv := VA.inv (h ▸ hT.get i)
  generalize hu0 : a.tmps.getD i undef = u0 at hv
  cases hv with | nils =>
  obtain ⟨z', O', e1, l1, f1, m1, L1, R1⟩ := hR.new (.rows s [] ty) x.w none (fun _ => False) rfl rfl rfl (Nat.le_refl _) (fun _ _ => rfl) (fun k hk => hk.elim)
    (fun y hw hle hF hμ => ⟨hs, by simp, .inl ⟨hμ, rfl⟩⟩)
  refine ⟨hd, z', O', e1, R1, by rw [pT_length]; exact hT.1, fun j b hb => ?_⟩
  rw [pT_eq, List.getElem?_set] at hb
  split at hb
  · rename_i e
    split at hb
    · rename_i hlt
      cases hb
      subst e
      have hlt' : i < a.tmps.size := by rw [hT.1]; exact hlt
      refine ⟨.slice none 0 0, by rw [← hu0]; simp [Array.getD_eq_getD_getElem?, hlt'], .c _ _ (.own _ _ _ _ _ ⟨rfl, by rw [L1]; omega, fun s' m' hN => ?_⟩)⟩
      have : z'.N H.length = some (s, 0) := by rw [R1.hN]; exact nOf_some (b := .rows s [] ty) (by simp)
      rw [this] at hN
      cases hN
      exact ⟨Nat.le_refl _, fun _ => by rw [m1]; simp⟩
    · cases hb
  · obtain ⟨u, hu, hv⟩ := hT.2 j b hb
    exact ⟨u, hu, hv.mono l1⟩

end Go.Eng
namespace Go.Eng
open Go.RowKit
set_option linter.unusedVariables false
set_option linter.unusedSimpArgs false

def fnOk (P : Program) (f : FuncId) : Bool := match P.funcs[f]? with | some fn => fn.body.isSome && fn.name != "runtime.NumGoroutine" | none => false

def AFn (E : Env) (f : FuncId) (args : List A) (H : Heap) (r : A) (H' : Heap) : Prop :=
  fnOk E.P f = true ∧ ∀ (B : Base) (vs : Array Value) (w : World), B.ok E → B.x.L = H.length → SRel B args H vs w → Calls E.P f vs w (fun e w' => ∃ v, e = .returned v ∧ SRel B [r] H' #[v] w')

def resA (E : Env) (T : List A) (H : Heap) : List ResultVar → Option (List A)
  | [] => some []
  | .tmp t :: l => match resA E T H l with | some r => some (gT T t :: r) | none => none
  | .cell p t :: l => match aLoad E H t (gT T p), resA E T H l with | some v, some r => some (v :: r) | _, _ => none

def oneRes : List A → A
  | [a] => a
  | l => .tup l

def Fin (E : Env) (rs : List ResultVar) (r : A) (H' : Heap) (m : Nat) : Exit → List A → Heap → Prop
  | .normal, T, H => ∃ l, resA E T H rs = some l ∧ Wk m [oneRes l] H [r] H'
  | .ret, T, H => ∃ l, resA E T H rs = some l ∧ Wk m [oneRes l] H [r] H'
  | _, _, _ => False

def resV (tmps : Array Value) : ResultVar → Sem Value
  | .tmp t => pure (tmps.getD t undef)
  | .cell a t => do loadVar t (← asAddr (tmps.getD a undef))

section
variable {E : Env}

theorem resA_ok {B : Base} {x : Ctx} {O : Nat → Nat → Prop} {H : Heap} (hR : Rel B x O H) {T : List A} {tmps : Array Value} (hT : TR x T tmps) : ∀ {rs : List ResultVar} {l : List A}, resA E T H rs = some l →
    ∃ vs : List Value, (rs.mapM (resV tmps)).run E.P x.w = .ok vs x.w ∧ vs.length = l.length ∧
      ∀ (i : Nat) a, l[i]? = some a → ∃ u, vs[i]? = some u ∧ VA x a u
  | [], l, h => by cases h; exact ⟨[], by simp, rfl, fun i a h => by simp at h⟩
  | .tmp t :: rs, l, h => by
    simp only [resA] at h
    split at h
    · rename_i r hr
      cases h
      obtain ⟨vs, h1, h2, h3⟩ := resA_ok hR hT hr
      refine ⟨tmps.getD t undef :: vs, by rw [List.mapM_cons]; simp only [Sem.run_bind, resV, Sem.run_pure, Result.andThen_ok, h1], by simp [h2], fun i a hi => ?_⟩
      cases i with
      | zero => cases hi; exact ⟨_, rfl, hT.get t⟩
      | succ i => exact h3 i a (by simpa using hi)
    · cases h
  | .cell p t :: rs, l, h => by
    simp only [resA] at h
    split at h
    · rename_i v r hv hr
      cases h
      obtain ⟨vs, h1, h2, h3⟩ := resA_ok hR hT hr
      obtain ⟨u, hu, hva⟩ := aLoad_ok hR (hT.get p) hv
      have hld : (do loadVar t (← asAddr (tmps.getD p undef))).run E.P x.w = .ok u x.w := by
        unfold Instr.loadAt at hu
        cases hq : tmps.getD p undef with
        | pointer a =>
          cases a with
          | none => rw [hq] at hu; simp [Instr.sureAddr] at hu
          | some a => rw [hq] at hu; simpa [Instr.sureAddr, asAddr] using hu
        | _ => rw [hq] at hu; simp [Instr.sureAddr] at hu
      refine ⟨u :: vs, ?_, by simp [h2], fun i a hi => ?_⟩
      · rw [List.mapM_cons]
        have : (resV tmps (.cell p t)).run E.P x.w = .ok u x.w := hld
        simp only [Sem.run_bind, this, Result.andThen_ok, h1, Sem.run_pure]
      · cases i with
        | zero => cases hi; exact ⟨_, rfl, hva⟩
        | succ i => exact h3 i a (by simpa using hi)
    · cases h

theorem afn_body {f : FuncId} {fn : Func} {c : Code} {args : List A} {H H' : Heap} {r : A} (hf : E.P.funcs[f]? = some fn) (hb : fn.body = some c) (hn : (fn.name != "runtime.NumGoroutine") = true)
    (h : AWP E c (args ++ List.replicate (fn.ntmps - args.length) .und) H (Fin E fn.results.toList r H' H.length) H.length) : AFn E f args H r H' := by
  refine ⟨by simp only [fnOk, hf, hb, Option.isSome_some, Bool.true_and, hn], fun B vs w hB hm hs => ?_⟩
  refine calls_of_wp hf hb ?_
  obtain ⟨x, O, rfl, hR, hT⟩ := hs
  have hsz := hT.1
  have hs' : SR B (args ++ List.replicate (fn.ntmps - args.length) .und) H { tmps := vs ++ Array.replicate (fn.ntmps - vs.size) undef, defers := [] } x.w := by
    refine ⟨rfl, x, O, rfl, hR, by simp [hsz], fun i a hi => ?_⟩
    by_cases hlt : i < args.length
    · rw [List.getElem?_append_left hlt] at hi
      obtain ⟨u, hu, hv⟩ := hT.2 i a hi
      exact ⟨u, by rw [Array.getElem?_append_left (by omega)]; exact hu, hv⟩
    · rw [List.getElem?_append_right (by omega), List.getElem?_replicate] at hi
      split at hi
      · rename_i hl2
        cases hi
        refine ⟨undef, ?_, .und⟩
        rw [Array.getElem?_append_right (by omega), Array.getElem?_replicate, if_pos (by omega)]
      · cases hi
  refine wp_mono (h B _ x.w hB hm hs') ?_
  rintro e a' w' ⟨T', H1, hq, hd, hsr⟩
  have key : (∃ l, resA E T' H1 fn.results.toList = some l ∧ Wk H.length [oneRes l] H1 [r] H') → a'.defers = [] ∧ ∃ v, (results fn a'.tmps).run E.P w' = .ok v w' ∧ ∃ v', Ending.returned v = .returned v' ∧ SRel B [r] H' #[v'] w' := by
    rintro ⟨l, hl, hw⟩
    obtain ⟨y, O', rfl, hR', hT'⟩ := hsr
    obtain ⟨us, h1, h2, h3⟩ := resA_ok hR' hT' hl
    have hres : ∃ v, (results fn a'.tmps).run E.P y.w = .ok v y.w ∧ VA y (oneRes l) v := by
      have hm : (fn.results.mapM (resV a'.tmps)).run E.P y.w = .ok us.toArray y.w := by
        rw [Array.mapM_eq_mapM_toList]
        simp only [map_eq_pure_bind, Sem.run_bind, h1, Result.andThen_ok, Sem.run_pure]
      have hfun : results fn a'.tmps = (fn.results.mapM (resV a'.tmps) >>= fun vs => pure (if h : vs.size = 1 then vs[0] else .tuple vs)) := by
        unfold results
        exact congrArg (fun g => (fn.results.mapM g >>= fun vs => pure (if h : vs.size = 1 then vs[0] else Value.tuple vs))) (funext fun r => by cases r <;> rfl)
      rw [hfun]
      simp only [Sem.run_bind, hm, Result.andThen_ok, Sem.run_pure, List.size_toArray]
      match l, us, h2, h3 with
      | [], [], _, _ => exact ⟨_, rfl, .tup [] #[] (fun _ => undef) rfl (fun i a h => by simp at h) (fun i a h => by simp at h)⟩
      | [a], [u], _, h3 =>
        obtain ⟨u', hu, hv⟩ := h3 0 a rfl
        cases hu
        exact ⟨u, by simp, hv⟩
      | a :: b :: l, u :: v :: us, h2, h3 =>
        refine ⟨.tuple (u :: v :: us).toArray, by simp, .tup _ _ (fun i => ((u :: v :: us)[i]?).getD undef) (by simpa using h2) (fun i c hc => ?_) (fun i c hc => ?_)⟩
        · obtain ⟨w, hw, _⟩ := h3 i c hc
          simp only [List.getElem?_toArray, hw, Option.getD_some]
        · obtain ⟨w, hw, hv⟩ := h3 i c hc
          simp only [hw, Option.getD_some]
          exact hv
    obtain ⟨v, hv1, hv2⟩ := hres
    refine ⟨hd, v, hv1, v, rfl, ?_⟩
    exact (hw B ⟨#[v], []⟩ y.w hm ⟨rfl, y, O', rfl, hR', rfl, fun i a hi => by
      cases i with
      | zero => cases hi; exact ⟨v, rfl, hv2⟩
      | succ i => simp at hi⟩).2
  cases e with
  | normal => exact key hq
  | ret => exact key hq
  | _ => exact hq.elim

end
end Go.Eng
namespace Go.Eng
open Go.RowKit
set_option linter.unusedVariables false
set_option linter.unusedSimpArgs false


mutual
def renC (g : Nat → Nat) : C → C
  | .own id off len n => .own (g id) off len n
  | .ptr id j off n => .ptr (g id) j off n
  | .clo fn cs => .clo fn (renCs g cs)
  | .d x => .d x
  | .nils => .nils
  | .pf cs o => .pf cs o
  | .pa rs => .pa rs
  | .any => .any
def renCs (g : Nat → Nat) : List C → List C
  | [] => []
  | c :: l => renC g c :: renCs g l
end

mutual
def renA (g : Nat → Nat) : A → A
  | .c c => .c (renC g c)
  | .agg cs => .agg (renCs g cs)
  | .tup l => .tup (renAs g l)
  | .und => .und
  | .any => .any
def renAs (g : Nat → Nat) : List A → List A
  | [] => []
  | a :: l => renA g a :: renAs g l
end

def renB (g : Nat → Nat) : Option Blk → Option Blk
  | some (.box cs ty) => some (.box (renCs g cs) ty)
  | b => b

def okA (k : Nat) : A → Bool
  | .c c => okC k c
  | .agg cs => okCs k cs
  | .tup _ => false
  | _ => true

def okAs (k : Nat) : List A → Bool
  | [] => true
  | a :: l => okA k a && okAs k l

def okB (k : Nat) : Option Blk → Bool
  | some (.box cs _) => okCs k cs
  | _ => true

def okH (k : Nat) : Heap → Bool
  | [] => true
  | b :: l => okB k b && okH k l

theorem renCs_eq (g : Nat → Nat) : ∀ l : List C, renCs g l = l.map (renC g)
  | [] => by simp [renCs]
  | c :: l => by simp [renCs, renCs_eq g l]
theorem renAs_eq (g : Nat → Nat) : ∀ l : List A, renAs g l = l.map (renA g)
  | [] => by simp [renAs]
  | c :: l => by simp [renAs, renAs_eq g l]
theorem okAs_mem {k : Nat} : ∀ {l : List A}, okAs k l = true → ∀ c ∈ l, okA k c = true
  | [], _, c, h => by simp at h
  | a :: l, h, c, hc => by
    simp only [okAs, Bool.and_eq_true] at h
    rcases List.mem_cons.1 hc with rfl | hc
    · exact h.1
    · exact okAs_mem h.2 c hc
theorem okH_get {k : Nat} : ∀ {H : Heap}, okH k H = true → ∀ (i : Nat) b, H[i]? = some b → okB k b = true
  | [], _, i, b, h => by simp at h
  | a :: l, h, i, b, hb => by
    simp only [okH, Bool.and_eq_true] at h
    cases i with
    | zero => cases hb; exact h.1
    | succ i => exact okH_get h.2 i b (by simpa using hb)

section
variable {x y : Ctx} {g : Nat → Nat}

theorem VR.toLoc {m : Nat} (hw : y.w = x.w) (hF : y.F = x.F) (hL : y.L = m) (hμ : ∀ k, k < m → y.μ k = x.μ (g k)) (hN : ∀ k, k < m → y.N k = x.N (g k)) {c' : C} {v : Value} (h : VR x c' v) :
    ∀ {c : C}, c' = renC g c → okC m c = true → VR y c v := by
  induction h with
  | d d v hd =>
    intro c hc hk
    cases c <;> simp only [renC, reduceCtorEq, C.d.injEq] at hc
    subst hc
    exact .d _ v (by rw [hw, hF]; exact hd)
  | nils => intro c hc hk; cases c <;> simp only [renC, reduceCtorEq] at hc; exact .nils
  | own id off len n v h =>
    intro c hc hk
    cases c <;> simp only [renC, reduceCtorEq, C.own.injEq] at hc
    obtain ⟨rfl, rfl, rfl, rfl⟩ := hc
    simp only [okC, decide_eq_true_eq] at hk
    refine .own _ _ _ _ _ ⟨h.1, by rw [hL]; exact hk, fun s m hm => ?_⟩
    rw [hN _ hk] at hm
    have := h.2.2 s m hm
    rw [hμ _ hk, hw]
    exact this
  | ptr id j off n v h =>
    intro c hc hk
    cases c <;> simp only [renC, reduceCtorEq, C.ptr.injEq] at hc
    obtain ⟨rfl, rfl, rfl, rfl⟩ := hc
    simp only [okC, decide_eq_true_eq] at hk
    refine .ptr _ _ _ _ _ ⟨h.1, by rw [hL]; exact hk, fun s m hm => ?_⟩
    rw [hN _ hk] at hm
    have := h.2.2 s m hm
    rw [hμ _ hk]
    exact this
  | pf cells off b o h1 h2 =>
    intro c hc hk
    cases c <;> simp only [renC, reduceCtorEq, C.pf.injEq] at hc
    obtain ⟨rfl, rfl⟩ := hc
    exact .pf _ _ b o (by rw [hF]; exact h1) (by rw [hw, hF]; exact h2)
  | pa rows b o s h1 h2 h3 =>
    intro c hc hk
    cases c <;> simp only [renC, reduceCtorEq, C.pa.injEq] at hc
    subst hc
    exact .pa _ b o s (by rw [hF]; exact h1) h2 (by rw [hw, hF]; exact h3)
  | clo fn caps vs u hl hu hv ih =>
    intro c hc hk
    cases c <;> simp only [renC, reduceCtorEq, C.clo.injEq] at hc
    obtain ⟨rfl, rfl⟩ := hc
    simp only [okC] at hk
    rename_i cs
    rw [renCs_eq] at hl hu hv ih
    refine .clo _ _ vs u (by simpa using hl) (fun i c hc => hu i (renC g c) (by simp [hc])) (fun i c hc => ih i (renC g c) (by simp [hc]) rfl (okCs_mem hk c (List.mem_of_getElem? hc)))
  | any v h => intro c hc hk; cases c <;> simp only [renC, reduceCtorEq] at hc; exact .any v h

theorem VR.toGlob (hw : y.w = x.w) (hF : y.F = x.F) (hL : ∀ k, k < x.L → g k < y.L) (hμ : ∀ k, k < x.L → y.μ (g k) = x.μ k) (hN : ∀ k, k < x.L → y.N (g k) = x.N k) {c : C} {v : Value} (h : VR x c v) : VR y (renC g c) v := by
  induction h with
  | d d v hd => simp only [renC]; exact .d _ v (by rw [hw, hF]; exact hd)
  | nils => simp only [renC]; exact .nils
  | own id off len n v h =>
    simp only [renC]
    refine .own _ _ _ _ _ ⟨h.1, hL _ h.2.1, fun s m hm => ?_⟩
    rw [hN _ h.2.1] at hm
    have := h.2.2 s m hm
    rw [hμ _ h.2.1, hw]
    exact this
  | ptr id j off n v h =>
    simp only [renC]
    refine .ptr _ _ _ _ _ ⟨h.1, hL _ h.2.1, fun s m hm => ?_⟩
    rw [hN _ h.2.1] at hm
    have := h.2.2 s m hm
    rw [hμ _ h.2.1]
    exact this
  | pf cells off b o h1 h2 => simp only [renC]; exact .pf _ _ b o (by rw [hF]; exact h1) (by rw [hw, hF]; exact h2)
  | pa rows b o s h1 h2 h3 => simp only [renC]; exact .pa _ b o s (by rw [hF]; exact h1) h2 (by rw [hw, hF]; exact h3)
  | clo fn caps vs u hl hu hv ih =>
    simp only [renC, renCs_eq]
    refine .clo _ _ vs u (by simpa using hl) (fun i c hc => ?_) (fun i c hc => ?_)
    · rw [List.getElem?_map, Option.map_eq_some_iff] at hc
      obtain ⟨c', hc', rfl⟩ := hc
      exact hu i c' hc'
    · rw [List.getElem?_map, Option.map_eq_some_iff] at hc
      obtain ⟨c', hc', rfl⟩ := hc
      exact ih i c' hc'
  | any v h => simp only [renC]; exact .any v h

theorem CsR.toLoc {m : Nat} (hw : y.w = x.w) (hF : y.F = x.F) (hL : y.L = m) (hμ : ∀ k, k < m → y.μ k = x.μ (g k)) (hN : ∀ k, k < m → y.N k = x.N (g k)) {cs : List C} {vs : Array Value} (h : CsR x (renCs g cs) vs) (hk : okCs m cs = true) : CsR y cs vs := by
  rw [renCs_eq] at h
  refine ⟨by simpa using h.1, fun i c hc => ?_⟩
  obtain ⟨u, hu, hv⟩ := h.2 i (renC g c) (by simp [hc])
  exact ⟨u, hu, hv.toLoc hw hF hL hμ hN rfl (okCs_mem hk c (List.mem_of_getElem? hc))⟩

theorem CsR.toGlob (hw : y.w = x.w) (hF : y.F = x.F) (hL : ∀ k, k < x.L → g k < y.L) (hμ : ∀ k, k < x.L → y.μ (g k) = x.μ k) (hN : ∀ k, k < x.L → y.N (g k) = x.N k) {cs : List C} {vs : Array Value} (h : CsR x cs vs) : CsR y (renCs g cs) vs := by
  rw [renCs_eq]
  refine ⟨by simpa using h.1, fun i c hc => ?_⟩
  rw [List.getElem?_map, Option.map_eq_some_iff] at hc
  obtain ⟨c', hc', rfl⟩ := hc
  obtain ⟨u, hu, hv⟩ := h.2 i c' hc'
  exact ⟨u, hu, hv.toGlob hw hF hL hμ hN⟩

theorem VA.toLoc {m : Nat} (hw : y.w = x.w) (hF : y.F = x.F) (hL : y.L = m) (hμ : ∀ k, k < m → y.μ k = x.μ (g k)) (hN : ∀ k, k < m → y.N k = x.N (g k)) {a : A} {v : Value} (h : VA x (renA g a) v) (hk : okA m a = true) : VA y a v := by
  cases a with
  | c c => simp only [renA] at h; exact .c _ _ ((VA.inv h).toLoc hw hF hL hμ hN rfl hk)
  | agg cs => simp only [renA] at h; cases h with | agg _ vs h => exact .agg _ _ (h.toLoc hw hF hL hμ hN hk)
  | tup l => cases hk
  | und => simp only [renA] at h; cases h; exact .und
  | any => exact .any v

theorem VA.toGlob (hw : y.w = x.w) (hF : y.F = x.F) (hL : ∀ k, k < x.L → g k < y.L) (hμ : ∀ k, k < x.L → y.μ (g k) = x.μ k) (hN : ∀ k, k < x.L → y.N (g k) = x.N k) {a : A} {v : Value} (h : VA x a v) : VA y (renA g a) v := by
  induction h with
  | c c v h => simp only [renA]; exact .c _ _ (h.toGlob hw hF hL hμ hN)
  | agg cs vs h => simp only [renA]; exact .agg _ _ (h.toGlob hw hF hL hμ hN)
  | tup l vs u hl hu hv ih =>
    simp only [renA, renAs_eq]
    refine .tup _ vs u (by simpa using hl) (fun i a ha => ?_) (fun i a ha => ?_)
    · rw [List.getElem?_map, Option.map_eq_some_iff] at ha
      obtain ⟨a', ha', rfl⟩ := ha
      exact hu i a' ha'
    · rw [List.getElem?_map, Option.map_eq_some_iff] at ha
      obtain ⟨a', ha', rfl⟩ := ha
      exact ih i a' ha'
  | und => simp only [renA]; exact .und
  | any v => simp only [renA]; exact .any v
end


def find : List Nat → Nat → Option Nat
  | [], _ => none
  | s :: l, id => if s = id then some 0 else match find l id with | some k => some (k + 1) | none => none

theorem find_some : ∀ {l : List Nat} {id k : Nat}, find l id = some k → l[k]? = some id
  | [], id, k, h => by cases h
  | s :: l, id, k, h => by
    simp only [find] at h
    split at h
    · rename_i e; cases h; simp [e]
    · split at h
      · rename_i k' hk; cases h; simpa using find_some hk
      · cases h

theorem find_none : ∀ {l : List Nat} {id : Nat}, find l id = none → id ∉ l
  | [], id, h => by simp
  | s :: l, id, h => by
    simp only [find] at h
    split at h
    · cases h
    · rename_i e
      split at h
      · cases h
      · rename_i hk
        have := find_none hk
        simp [this, Ne.symm e]

theorem find_get : ∀ {l : List Nat} {id k : Nat}, l.Nodup → l[k]? = some id → find l id = some k
  | [], id, k, _, h => by simp at h
  | s :: l, id, k, hn, h => by
    rw [List.nodup_cons] at hn
    simp only [find]
    cases k with
    | zero => simp at h; simp [h]
    | succ k =>
      have h' : l[k]? = some id := by simpa using h
      have : s ≠ id := fun e => hn.1 (e ▸ List.mem_of_getElem? h')
      rw [if_neg this, find_get hn.2 h']

def gl (sel : List Nat) (L k : Nat) : Nat := match sel[k]? with | some i => i | none => L + (k - sel.length)

def mrg (g : Nat → Nat) : List Nat → Heap → Heap → Heap
  | [], rest, H => H ++ rest.map (renB g)
  | s :: sel, b :: l, H => mrg g sel l (hP H s (renB g b))
  | _ :: _, [], H => H

end Go.Eng
namespace Go.Eng
open Go.RowKit
set_option linter.unusedVariables false
set_option linter.unusedSimpArgs false

def loc (sel : List Nat) (L id : Nat) : Option Nat := if id < L then find sel id else some (id - L + sel.length)

theorem mrg_get (g : Nat → Nat) : ∀ (sel : List Nat) (l H : Heap), sel.Nodup → (∀ s ∈ sel, s < H.length) → sel.length ≤ l.length →
    (mrg g sel l H).length = H.length + (l.length - sel.length) ∧ ∀ id, (mrg g sel l H)[id]? = match loc sel H.length id with | some k => (l[k]?).map (renB g) | none => H[id]?
  | [], l, H, _, _, _ => by
    refine ⟨by simp [mrg], fun id => ?_⟩
    simp only [mrg, loc, find]
    split
    · rename_i k hk
      split at hk
      · cases hk
      · rename_i h
        simp only [List.length_nil, Nat.add_zero, Option.some.injEq] at hk
        subst hk
        rw [List.getElem?_append_right (by omega)]
        simp
    · rename_i hk
      split at hk
      · rename_i h; rw [List.getElem?_append_left h]
      · cases hk
  | s :: sel, [], H, _, _, hl => by simp at hl
  | s :: sel, b :: l, H, hn, hs, hl => by
    rw [List.nodup_cons] at hn
    have hslt : s < H.length := hs s (by simp)
    have hlen : (hP H s (renB g b)).length = H.length := by rw [hP_eq, List.length_set]
    obtain ⟨h1, h2⟩ := mrg_get g sel l (hP H s (renB g b)) hn.2 (fun t ht => by rw [hlen]; exact hs t (by simp [ht])) (by simpa using hl)
    refine ⟨by simp only [mrg]; rw [h1, hlen]; simp, fun id => ?_⟩
    simp only [mrg]
    rw [h2 id, hlen]
    simp only [loc, find]
    by_cases hid : id < H.length
    · simp only [hid, if_true]
      by_cases e : s = id
      · subst e
        rw [if_pos rfl]
        have : find sel s = none := by
          cases hf : find sel s with
          | none => rfl
          | some k => exact absurd (List.mem_of_getElem? (find_some hf)) hn.1
        rw [this]
        simp [hP_eq, hslt]
      · rw [if_neg e]
        cases hf : find sel id with
        | some k => simp
        | none => simp [hP_eq, List.getElem?_set_ne e]
    · simp only [hid, if_false]
      simp only [List.length_cons]
      rw [show id - H.length + (sel.length + 1) = (id - H.length + sel.length) + 1 by omega, List.getElem?_cons_succ]

theorem gl_loc {sel : List Nat} {L id k : Nat} (h : loc sel L id = some k) : gl sel L k = id := by
  unfold loc at h
  split at h
  · have := find_some h
    simp [gl, this]
  · rename_i hid
    cases h
    have : sel[id - L + sel.length]? = none := by simp
    simp only [gl, this]
    omega

theorem loc_gl {sel : List Nat} {L k : Nat} (hn : sel.Nodup) (hs : ∀ s ∈ sel, s < L) : loc sel L (gl sel L k) = some k := by
  unfold gl
  split
  · rename_i i hi
    have := hs i (List.mem_of_getElem? hi)
    simp only [loc, this, if_true]
    exact find_get hn hi
  · rename_i hi
    have hk : sel.length ≤ k := by simpa using hi
    simp only [loc]
    rw [if_neg (by omega)]
    congr 1
    omega

theorem noRef_ok {x y : Ctx} (hw : y.w = x.w) (hF : y.F = x.F) {c : C} (h : noRef c = true) {v : Value} (hv : VR x c v) : VR y c v := by
  cases hv with
  | d _ _ hd => exact .d _ _ (by rw [hw, hF]; exact hd)
  | pf cells off b o h1 h2 => exact .pf _ _ b o (by rw [hF]; exact h1) (by rw [hw, hF]; exact h2)
  | pa rows b o s h1 h2 h3 => exact .pa _ b o s (by rw [hF]; exact h1) h2 (by rw [hw, hF]; exact h3)
  | any _ h => exact .any _ h
  | _ => cases h

theorem nOf_ren {g : Nat → Nat} {H H' : Heap} {i j : Nat} (h : H[i]? = (H'[j]?).map (renB g)) : nOf H i = nOf H' j := by
  unfold nOf
  rw [h]
  cases H'[j]? with
  | none => rfl
  | some b => cases b with
    | none => rfl
    | some b => cases b <;> rfl

theorem BR.toGlob {x y : Ctx} {g : Nat → Nat} {O O' : Nat → Prop} {k : Nat} {b : Blk} (hw : y.w = x.w) (hF : y.F = x.F) (hL : ∀ k, k < x.L → g k < y.L) (hμ : ∀ k, k < x.L → y.μ (g k) = x.μ k) (hN : ∀ k, k < x.L → y.N (g k) = x.N k)
    (hO : ∀ k, O k → O' k) (hk : k < x.L) (h : BR x O k b) : ∀ b', renB g (some b) = some b' → BR y O' (g k) b' := by
  intro b' hb
  cases b with
  | box cs =>
    simp only [renB, Option.some.injEq] at hb
    subst hb
    obtain ⟨c, vs, t, h1, h2, h3, h4⟩ := h
    exact ⟨c, vs, t, by rw [hμ k hk]; exact h1, hO _ h2, by rw [hw]; exact h3, h4.toGlob hw hF hL hμ hN⟩
  | rows s rs =>
    simp only [renB, Option.some.injEq] at hb
    subst hb
    obtain ⟨h0, h1, h2⟩ := h
    refine ⟨h0, h1, ?_⟩
    rcases h2 with ⟨h2, h3⟩ | ⟨c, lo, vs, t, h2, h3, h4, h5⟩
    · exact .inl ⟨by rw [hμ k hk]; exact h2, h3⟩
    · exact .inr ⟨c, lo, vs, t, by rw [hμ k hk]; exact h2, hO _ h3, by rw [hw]; exact h4, by rw [hw, hF]; exact h5⟩
  | mp es =>
    simp only [renB, Option.some.injEq] at hb
    subst hb
    obtain ⟨c, ents, ck, h1, h2, h3, h4⟩ := h
    exact ⟨c, ents, ck, by rw [hμ k hk]; exact h1, hO _ h2, by rw [hw]; exact h3, h4⟩
  | raw r =>
    simp only [renB, Option.some.injEq] at hb
    subst hb
    obtain ⟨h1, h2⟩ := h
    exact ⟨fun g lo h => hO _ (h1 g lo (by rw [← hμ k hk]; exact h)), by rw [hw, hF, hμ k hk]; exact r.mono (fun k h => ⟨h, rfl⟩) hO (fun _ _ => rfl) h2⟩

theorem BR.toLoc {x y : Ctx} {g : Nat → Nat} {O O' : Nat → Prop} {k m : Nat} {b b' : Blk} (hw : y.w = x.w) (hF : y.F = x.F) (hL : y.L = m) (hμ : ∀ k, k < m → y.μ k = x.μ (g k)) (hN : ∀ k, k < m → y.N k = x.N (g k))
    (hO : ∀ k, O k → O' k) (hk : k < m) (hb : renB g (some b) = some b') (hok : okB m (some b) = true) (h : BR x O (g k) b') : BR y O' k b := by
  cases b with
  | box cs =>
    simp only [renB, Option.some.injEq] at hb
    subst hb
    obtain ⟨c, vs, t, h1, h2, h3, h4⟩ := h
    exact ⟨c, vs, t, by rw [hμ k hk]; exact h1, hO _ h2, by rw [hw]; exact h3, h4.toLoc hw hF hL hμ hN hok⟩
  | rows s rs =>
    simp only [renB, Option.some.injEq] at hb
    subst hb
    obtain ⟨h0, h1, h2⟩ := h
    refine ⟨h0, h1, ?_⟩
    rcases h2 with ⟨h2, h3⟩ | ⟨c, lo, vs, t, h2, h3, h4, h5⟩
    · exact .inl ⟨by rw [hμ k hk]; exact h2, h3⟩
    · exact .inr ⟨c, lo, vs, t, by rw [hμ k hk]; exact h2, hO _ h3, by rw [hw]; exact h4, by rw [hw, hF]; exact h5⟩
  | mp es =>
    simp only [renB, Option.some.injEq] at hb
    subst hb
    obtain ⟨c, ents, ck, h1, h2, h3, h4⟩ := h
    exact ⟨c, ents, ck, by rw [hμ k hk]; exact h1, hO _ h2, by rw [hw]; exact h3, h4⟩
  | raw r =>
    simp only [renB, Option.some.injEq] at hb
    subst hb
    obtain ⟨h1, h2⟩ := h
    exact ⟨fun g lo h => hO _ (h1 g lo (by rw [← hμ k hk]; exact h)), by rw [hw, hF, hμ k hk]; exact r.mono (fun k h => ⟨h, rfl⟩) hO (fun _ _ => rfl) h2⟩

theorem owns {B : Base} {x : Ctx} {O : Nat → Nat → Prop} {H : Heap} (hR : Rel B x O H) {id : Nat} {p : Nat × Nat} (h : nOf H id = some p) {g lo : Nat} (hg : x.μ id = some (g, lo)) : O id g := by
  obtain ⟨bb, hbb, hbn⟩ := nOf_inv h
  have hB' := hR.blk id bb hbb
  cases bb with
  | box cs => obtain ⟨g', vs, t, h1, h2, _⟩ := hB'; rw [h1] at hg; cases hg; exact h2
  | mp es => obtain ⟨g', vs, t, h1, h2, _⟩ := hB'; rw [h1] at hg; cases hg; exact h2
  | raw r => exact hB'.1 _ _ hg
  | rows s' rs =>
    obtain ⟨_, _, h2⟩ := hB'
    rcases h2 with ⟨h2, _⟩ | ⟨g', lo', vs, t, h2, h3, _⟩
    · rw [h2] at hg; cases hg
    · rw [h2] at hg; cases hg; exact h3

theorem call_ok {E : Env} {f : FuncId} {sel : List Nat} {args r : A → A} {al : List A} {Hl Hl' : Heap} {rl : A} (hf : AFn E f al Hl rl Hl') {B : Base} (hB : B.ok E) {x : Ctx} {O : Nat → Nat → Prop} {H : Heap} (hR : Rel B x O H)
    (hnd : sel.Nodup) (hsel : ∀ s ∈ sel, s < H.length) (hlen : Hl.length = sel.length) (hH : ∀ (k : Nat) b, Hl[k]? = some b → H[gl sel H.length k]? = some (renB (gl sel H.length) b))
    (hoA : okAs Hl.length al = true) (hoH : okH Hl.length Hl = true) {vs : Array Value} (hT : TR x (renAs (gl sel H.length) al) vs) :
    Calls E.P f vs x.w (fun e w' => ∃ v, e = .returned v ∧ Outs B x (renA (gl sel H.length) rl) (mrg (gl sel H.length) sel Hl' H) v w') := by
  let g := gl sel H.length
  let m := Hl.length
  have hg : ∀ k, k < m → g k ∈ sel ∧ g k < H.length := fun k hk => by
    have hk' : k < sel.length := by rw [← hlen]; exact hk
    have : sel[k]? = some sel[k] := List.getElem?_eq_getElem hk'
    have e : g k = sel[k] := by simp only [g, gl, this]
    rw [e]
    exact ⟨List.getElem_mem hk', hsel _ (List.getElem_mem hk')⟩
  have hgi : ∀ j k, g j = g k → j = k := fun j k h => by
    have h1 := loc_gl (k := j) hnd hsel
    have h2 := loc_gl (k := k) hnd hsel
    have : loc sel H.length (g j) = some j := h1
    rw [h, show loc sel H.length (g k) = some k from h2] at this
    exact (Option.some.inj this).symm
  let xl : Ctx := { w := x.w, F := x.F, μ := fun k => x.μ (g k), N := nOf Hl, L := m }
  have hNl : ∀ k, k < m → xl.N k = x.N (g k) := fun k hk => by
    rw [hR.hN]
    have hk' : Hl[k]? = some Hl[k] := List.getElem?_eq_getElem hk
    exact (nOf_ren (g := g) (by rw [hk']; exact hH k _ hk')).symm
  let Bl : Base := { x := xl, A := fun b => ∃ k, k < m ∧ O (g k) b }
  have hBl : Bl.ok E := fun q => noRef_ok (x := x) (y := xl) rfl rfl (E.hgl q) (hR.glob hB q)
  have hRl : Rel Bl xl (fun k b => k < m ∧ O (g k) b) Hl := by
    refine ⟨rfl, fun _ => rfl, .refl xl, rfl, rfl, rfl, fun _ _ _ => rfl, fun k b hb => ⟨(hR.own _ _ hb.2).1, .inl ⟨k, hb.1, hb.2⟩⟩, fun k hk => ⟨(hR.fr k hk).1, .inl hk⟩, fun j k b hj hk => hgi _ _ (hR.disj _ _ _ hj.2 hk.2), fun k b hb hF => hR.nof _ _ hb.2 hF, fun k b hb => ?_⟩
    have hk : k < m := (List.getElem?_eq_some_iff.1 hb).1
    have h1 := hH k _ hb
    cases hrb : renB g (some b) with
    | none => cases b <;> simp [renB] at hrb
    | some b' =>
      rw [show gl sel H.length = g from rfl, hrb] at h1
      exact (hR.blk _ _ h1).toLoc (x := x) (y := xl) (g := g) rfl rfl rfl (fun _ _ => rfl) hNl (fun q hq => ⟨hk, hq⟩) hk hrb (okH_get hoH k _ hb)
  have hTl : TR xl al vs := by
    rw [renAs_eq] at hT
    refine ⟨by simpa using hT.1, fun i a ha => ?_⟩
    obtain ⟨u, hu, hv⟩ := hT.2 i (renA g a) (by simp [ha, g])
    exact ⟨u, hu, hv.toLoc (x := x) (y := xl) (g := g) rfl rfl rfl (fun _ _ => rfl) hNl (okAs_mem hoA a (List.mem_of_getElem? ha))⟩
  refine Calls.mono (hf.2 Bl vs x.w hBl rfl ⟨xl, _, rfl, hRl, hTl⟩) ?_
  rintro e w' ⟨v, rfl, yl, Ol, rfl, hRl', hTr⟩
  refine ⟨v, rfl, ?_⟩
  have hml : m ≤ Hl'.length := by have := hRl'.le.L; rw [hRl'.hL] at this; exact this
  obtain ⟨q1, q2⟩ := mrg_get g sel Hl' H hnd hsel (by rw [← hlen]; exact hml)
  let H2 := mrg g sel Hl' H
  let y : Ctx := { w := yl.w, F := yl.F, μ := fun id => match loc sel H.length id with | some k => yl.μ k | none => x.μ id, N := nOf H2, L := H2.length }
  let O2 : Nat → Nat → Prop := fun id b => match loc sel H.length id with | some k => Ol k b | none => O id b
  have hloc : ∀ k, loc sel H.length (g k) = some k := fun k => loc_gl hnd hsel
  have hgL : ∀ k, k < yl.L → g k < y.L := fun k hk => by
    rw [hRl'.hL] at hk
    show g k < H2.length
    rw [show H2.length = _ from q1]
    by_cases h : k < m
    · have := (hg k h).2; omega
    · have : sel[k]? = none := by simp; omega
      have e : g k = H.length + (k - sel.length) := by simp only [g, gl, this]
      omega
  have hμg : ∀ k, y.μ (g k) = yl.μ k := fun k => by show (match loc sel H.length (g k) with | some k => yl.μ k | none => _) = _; rw [hloc]
  have hNg : ∀ k, y.N (g k) = yl.N k := fun k => by
    rw [hRl'.hN]
    exact nOf_ren (g := g) (by rw [show H2[g k]? = _ from q2 (g k), hloc])
  have hout : ∀ id, loc sel H.length id = none → id < H.length ∧ id ∉ sel := fun id h => by
    unfold loc at h
    split at h
    · rename_i hid; exact ⟨hid, find_none h⟩
    · cases h
  have hNo : ∀ id, loc sel H.length id = none → y.N id = x.N id := fun id h => by
    rw [hR.hN]
    show nOf H2 id = _
    unfold nOf
    rw [show H2[id]? = _ from q2 id, h]
  have hBA : ∀ b, Bl.A b → (B.A b ∨ B.x.w.heap.size ≤ b) ∧ b < x.w.heap.size := fun b ⟨k, hk, ho⟩ => ⟨(hR.own _ _ ho).2, (hR.own _ _ ho).1⟩
  have hOo : ∀ id b, loc sel H.length id = none → O id b → ¬ Bl.A b := fun id b h ho ⟨k, hk, ho'⟩ => by
    have e := hR.disj _ _ _ ho ho'
    rw [e] at h
    exact absurd h (by rw [hloc]; simp)
  have hkeepO : ∀ id b, loc sel H.length id = none → O id b → yl.w.heap[b]? = x.w.heap[b]? := fun id b h ho => hRl'.keep b (hR.own _ _ ho).1 (hOo id b h ho)
  have hle : x.Le y := by
    refine ⟨hRl'.le.F, hRl'.le.size, by show x.L ≤ H2.length; rw [hR.hL, show H2.length = _ from q1]; omega, fun id hid s n hn => ?_⟩
    cases h : loc sel H.length id with
    | none =>
      rw [hNo id h] at hn
      refine ⟨n, hn, Nat.le_refl _, fun _ => ⟨by show (match loc sel H.length id with | some k => yl.μ k | none => x.μ id) = _; rw [h], fun c lo hc => ?_⟩⟩
      have ho := owns hR (hR.hN id ▸ hn) hc
      show bsz yl.w c = _
      unfold bsz
      rw [hkeepO id c h ho]
    | some k =>
      have hgk : g k = id := gl_loc h
      have hk : k < m := by
        unfold loc at h
        rw [hR.hL] at hid
        rw [if_pos hid] at h
        have := (List.getElem?_eq_some_iff.1 (find_some h)).1
        omega
      rw [← hgk, hNg] at hn
      obtain ⟨n', h1, h2, h3⟩ := hRl'.le.N k hk s n hn
      rw [← hgk]
      refine ⟨n', by rw [← hNl k hk]; exact h1, h2, fun e => ?_⟩
      obtain ⟨h4, h5⟩ := h3 e
      exact ⟨by rw [hμg]; exact h4, fun c lo hc => h5 c lo hc⟩
  refine ⟨y, O2, rfl, hle, ⟨rfl, fun _ => rfl, hR.le.trans hle, hRl'.os.trans hR.os, hRl'.tape.trans hR.tape, hRl'.output.trans hR.output, fun b hb hA => ?_, fun id b hb => ?_, fun b hb => ?_, fun i j b hi hj => ?_, fun id b hb hF => ?_, fun id b hb => ?_⟩, ?_⟩
  · have hb' : b < x.w.heap.size := Nat.lt_of_lt_of_le hb hR.le.size
    refine (hRl'.keep b hb' (fun h => ?_)).trans (hR.keep b hb hA)
    rcases (hBA b h).1 with h | h
    · exact hA h
    · omega
  · have hb' : match loc sel H.length id with | some k => Ol k b | none => O id b := hb
    cases h : loc sel H.length id with
    | none =>
      rw [h] at hb'
      exact ⟨Nat.lt_of_lt_of_le (hR.own _ _ hb').1 hRl'.le.size, (hR.own _ _ hb').2⟩
    | some k =>
      rw [h] at hb'
      obtain ⟨h1, h2⟩ := hRl'.own k b hb'
      refine ⟨h1, ?_⟩
      rcases h2 with h2 | h2
      · exact (hBA b h2).1
      · exact .inr (Nat.le_trans hR.le.size h2)
  · obtain ⟨h1, h2⟩ := hRl'.fr b hb
    refine ⟨h1, ?_⟩
    rcases h2 with h2 | h2 | h2
    · exact (hR.fr b h2).2
    · rcases (hBA b h2).1 with h | h
      · exact .inr (.inl h)
      · exact .inr (.inr h)
    · exact .inr (.inr (Nat.le_trans hR.le.size h2))
  · have hi' : match loc sel H.length i with | some k => Ol k b | none => O i b := hi
    have hj' : match loc sel H.length j with | some k => Ol k b | none => O j b := hj
    have hmix : ∀ i k, loc sel H.length i = none → O i b → Ol k b → False := fun i k h ho hl => by
      rcases (hRl'.own k b hl).2 with h2 | h2
      · exact hOo i b h ho h2
      · have := (hR.own i b ho).1
        have h2' : x.w.heap.size ≤ b := h2
        omega
    cases h : loc sel H.length i with
    | none =>
      rw [h] at hi'
      cases h' : loc sel H.length j with
      | none => rw [h'] at hj'; exact hR.disj _ _ _ hi' hj'
      | some k => rw [h'] at hj'; exact (hmix i k h hi' hj').elim
    | some k =>
      rw [h] at hi'
      cases h' : loc sel H.length j with
      | none => rw [h'] at hj'; exact (hmix j k h' hj' hi').elim
      | some k' =>
        rw [h'] at hj'
        have := hRl'.disj _ _ _ hi' hj'
        rw [← gl_loc h, ← gl_loc h', this]
  · have hb' : match loc sel H.length id with | some k => Ol k b | none => O id b := hb
    cases h : loc sel H.length id with
    | none =>
      rw [h] at hb'
      rcases (hRl'.fr b hF).2 with h2 | h2 | h2
      · exact hR.nof _ _ hb' h2
      · exact hOo id b h hb' h2
      · have := (hR.own id b hb').1
        have h2' : x.w.heap.size ≤ b := h2
        omega
    | some k => rw [h] at hb'; exact hRl'.nof _ _ hb' hF
  · have hb2 : H2[id]? = some (some b) := hb
    rw [show H2[id]? = _ from q2 id] at hb2
    cases h : loc sel H.length id with
    | none =>
      rw [h] at hb2
      have hO2 : O2 id = O id := by funext c; show (match loc sel H.length id with | some k => Ol k c | none => O id c) = _; rw [h]
      rw [hO2]
      exact (hR.blk id b hb2).mono hle (by show (match loc sel H.length id with | some k => yl.μ k | none => x.μ id) = _; rw [h]) (fun _ h => h) (fun c hc => hkeepO id c h hc)
    | some k =>
      rw [h] at hb2
      have hO2 : O2 id = Ol k := by funext c; show (match loc sel H.length id with | some k => Ol k c | none => O id c) = _; rw [h]
      rw [hO2]
      simp only [Option.map_eq_some_iff] at hb2
      obtain ⟨b0, hb0, hrb⟩ := hb2
      cases b0 with
      | none => simp [renB] at hrb
      | some b0 =>
        have hk : k < yl.L := by rw [hRl'.hL]; exact (List.getElem?_eq_some_iff.1 hb0).1
        have := (hRl'.blk k b0 hb0).toGlob (x := yl) (y := y) (g := g) rfl rfl hgL (fun k _ => hμg k) (fun k _ => hNg k) (fun _ h => h) hk b hrb
        rw [show g k = id from gl_loc h] at this
        exact this
  · obtain ⟨u, hu, hv⟩ := hTr.2 0 rl rfl
    have : u = v := by simpa using hu.symm
    subst this
    exact hv.toGlob (x := yl) (y := y) (g := g) rfl rfl hgL (fun k _ => hμg k) (fun k _ => hNg k)

end Go.Eng
namespace Go.Eng
open Go.RowKit
set_option linter.unusedVariables false
set_option linter.unusedSimpArgs false

theorem callFunc_run {E : Env} {f : FuncId} (h : fnOk E.P f = true) (vs : Array Value) (w : World) : (callFunc f vs).run E.P w = .ok (.enter f vs) w := by
  unfold fnOk at h
  split at h
  · rename_i fn hf
    simp only [Bool.and_eq_true, bne_iff_ne, ne_eq] at h
    obtain ⟨h1, h2⟩ := h
    obtain ⟨c, hc⟩ := Option.isSome_iff_exists.1 h1
    simp [callFunc, hf, hc, h2]
  · cases h

def opIs (o : Oper) (fo : Operand) (as : Array Operand) : Prop := ∃ ts, o.op = .call { callee := .value fo, args := as, argTypes := ts }

theorem callK {E : Env} {T : List A} {H : Heap} {o : Oper} {K : A → Heap → Prop} (sel : List Nat) {f : FuncId} {al : List A} {Hl Hl' : Heap} {rl : A} (hf : AFn E f al Hl rl Hl') {fo : Operand} {as : Array Operand} {caps : List C}
    (ho : opIs o fo as) (hfo : ev E T fo = .c (.clo (.func f) caps)) (hargs : as.toList.map (ev E T) ++ caps.map .c = renAs (gl sel H.length) al)
    (hnd : sel.Nodup) (hsel : ∀ s ∈ sel, s < H.length) (hlen : Hl.length = sel.length) (hH : ∀ (k : Nat) b, Hl[k]? = some b → H[gl sel H.length k]? = some (renB (gl sel H.length) b))
    (hoA : okAs Hl.length al = true) (hoH : okH Hl.length Hl = true) (hk : K (renA (gl sel H.length) rl) (mrg (gl sel H.length) sel Hl' H)) : CallK E T H o K := by
  refine ⟨_, _, ?_, hk⟩
  intro B a w K' Q hB hs hk'
  obtain ⟨hd, x, O, rfl, hR, hT⟩ := hs
  obtain ⟨ts, ho⟩ := ho
  have he : ∀ y, VA x (ev E T y) (a.eval y) := fun y => hT.eval (fun g => hR.glob hB g) y
  have hfe := VA.inv (hfo ▸ he fo)
  generalize hfv : a.eval fo = fv at hfe
  cases hfe with | clo _ _ cvs u hl hu hv =>
  have hrun : (execOp a.eval o).run E.P x.w = .ok (.enter f (as.map a.eval ++ cvs)) x.w := by
    unfold execOp
    rw [ho]
    simp only [resolve, hfv, Deferred.ofValue, invoke, pure_bind, Array.empty_append, Sem.run_bind, Sem.run_pure, Result.andThen_ok, callFunc_run hf.1]
  have hargs' : TR x (renAs (gl sel H.length) al) (as.map a.eval ++ cvs) := by
    rw [← hargs]
    refine ⟨by simp [hl], fun i c hi => ?_⟩
    by_cases hlt : i < as.size
    · rw [List.getElem?_append_left (by simpa using hlt)] at hi
      rw [List.getElem?_map, Option.map_eq_some_iff] at hi
      obtain ⟨y, hy, rfl⟩ := hi
      refine ⟨a.eval y, ?_, he y⟩
      have hy' : as[i]? = some y := by simpa using hy
      rw [Array.getElem?_append_left (by simpa using hlt)]
      simp [hy']
    · rw [List.getElem?_append_right (by simp; omega)] at hi
      rw [List.getElem?_map, Option.map_eq_some_iff] at hi
      obtain ⟨c', hc', rfl⟩ := hi
      refine ⟨u (i - as.size), ?_, .c _ _ (hv _ c' (by simpa using hc'))⟩
      rw [Array.getElem?_append_right (by simp; omega)]
      have := hu _ c' hc'
      simpa using this
  unfold Oper.wp
  rw [hrun]
  show Calls _ _ _ _ _
  refine Calls.mono (call_ok (r := id) (args := id) hf hB hR hnd hsel hlen hH hoA hoH hargs') ?_
  rintro e w' ⟨v, rfl, y, O', rfl, hle, hR', hv'⟩
  exact hk' _ _ ⟨by cases hdst : o.dst <;> simp [Act.put, hd], y, O', rfl, hR', (hT.mono hle).put o.dst hv'⟩

theorem callD {E : Env} {T : List A} {H : Heap} {o : Oper} {K : A → Heap → Prop} {f : FuncId} {al : List A} {rl : A} (hf : AFn E f al [] rl []) {fo : Operand} {as : Array Operand}
    (ho : opIs o fo as) (hfo : ev E T fo = .c (.clo (.func f) [])) (hargs : as.toList.map (ev E T) = al) (hr : ∀ g, renA g rl = rl) (ha : ∀ g, renAs g al = al) (hoA : okAs 0 al = true) (hk : K rl H) : CallK E T H o K := by
  refine callK [] hf ho hfo (by rw [ha]; simpa using hargs) (by simp) (by simp) rfl (by simp) hoA rfl ?_
  rw [hr]
  simpa [mrg] using hk

end Go.Eng
namespace Go.Eng
open Go.RowKit
set_option linter.unusedVariables false
set_option linter.unusedSimpArgs false

def undOf (P : Program) (t : TypeId) : Option TypeDesc := match P.underlying t with
  | some (.struct fs) => if fs.all (fun f => (P.info? f.type).isSome) then some (.struct fs) else none
  | d => d

def infOf (P : Program) (t : TypeId) : Option (Nat × Nat × Value) := match P.info? t with
  | some i => match i.zero with
    | some z => if z.cells.size = i.size ∧ allOne z.cells.toList = true then some (i.size, i.bytes, z) else none
    | none => none
  | none => none

def fieldInts (P : Program) (t : TypeId) : Option Nat := match P.underlying t with
  | some (.int _) => some 1
  | some (.array m e) => match P.underlying e, P.info? e, P.info? t with
    | some (.int _), some i, some j => if i.size = 1 ∧ j.size = m ∧ P.cellsOf e = 1 then some m else none
    | _, _, _ => none
  | _ => none
def okF (P : Program) : List Field → Nat → Option Nat
  | [], i => some i
  | f :: l, i => match fieldInts P f.type with
    | some m => if f.name ≠ "_" ∧ f.offset = i ∧ (P.info? f.type).isSome = true then okF P l (i + m) else none
    | none => none

def seqOf (P : Program) (t : TypeId) : Option Nat := match P.underlying t with
  | some (.struct fs) => if P.stoodInHeld t = false ∧ P.eqGuardType P.depth t = false then okF P fs.toList 0 else none
  | _ => none

theorem okF_le {P : Program} : ∀ {l : List Field} {i n : Nat}, okF P l i = some n → i ≤ n
  | [], i, n, h => by cases h; exact Nat.le_refl _
  | f :: l, i, n, h => by
    unfold okF at h
    split at h
    · split at h
      · have := okF_le h; omega
      · cases h
    · cases h

theorem eqItems_ok {P : Program} {e : TypeId} {kk : IntKind} (he : P.underlying e = some (.int kk)) {xs ys : Array Value} {k : Nat → IntKind} {f g : Nat → Int} (w : World) : ∀ (is : List Nat) (b : Bool),
    (∀ i ∈ is, xs[i]? = some (.int (k i) (f i)) ∧ ys[i]? = some (.int (k i) (g i))) → (b = true ↔ ∀ i ∈ is, f i = g i) → (Op.eqItems 9998 e 1 xs ys is).run P w = .ok b w
  | [], b, _, hb => by
    have : b = true := hb.2 (by simp)
    subst this; simp [Op.eqItems]
  | i :: is, b, h, hb => by
    obtain ⟨h1, h2⟩ := h i (by simp)
    have hpt : ∀ (vs : Array Value) v, vs[i]? = some v → (part e vs (i * 1)).run P w = .ok v w := fun vs v hv => by
      have : (isAgg e).run P w = .ok false w := by simp [isAgg, run_underlying he]
      simp only [part, Sem.run_bind, this, Result.andThen_ok, Bool.false_eq_true, if_false, Nat.mul_one, hv, Sem.run_pure]
    simp only [Op.eqItems, Sem.run_bind, hpt _ _ h1, hpt _ _ h2, Result.andThen_ok, run_equalIn_int w 9997 e (k i) kk (f i) (g i) he]
    by_cases hfg : f i = g i
    · have ih := eqItems_ok he w is b (fun j hj => h j (by simp [hj])) (hb.trans (by simp [hfg]))
      simp [hfg, ih]
    · have : b = false := by
        cases b with
        | false => rfl
        | true => exact absurd (hb.1 rfl i (by simp)) hfg
      subst this
      simp [hfg]

theorem eqF_ok {P : Program} {xs ys : Array Value} {k : Nat → IntKind} {f g : Nat → Int} (w : World) : ∀ (l : List Field) (i n : Nat) (b : Bool), okF P l i = some n →
    (∀ j, i ≤ j → j < n → xs[j]? = some (.int (k j) (f j)) ∧ ys[j]? = some (.int (k j) (g j))) → (b = true ↔ ∀ j, i ≤ j → j < n → f j = g j) → (Op.eqFields 9999 xs ys l).run P w = .ok b w
  | [], i, n, b, h, _, hb => by
    cases h
    have : b = true := hb.2 (fun j h1 h2 => by omega)
    subst this; simp [Op.eqFields]
  | c :: l, i, n, b, h, hv, hb => by
    unfold okF at h
    split at h
    · rename_i m hm
      split at h
      · rename_i hc
        obtain ⟨hn, ho, hi⟩ := hc
        have hle := okF_le h
        have rest : ∀ b', (b' = true ↔ ∀ j, i + m ≤ j → j < n → f j = g j) → (Op.eqFields 9999 xs ys l).run P w = .ok b' w := fun b' hb' => eqF_ok w l (i + m) n b' h (fun j h1 h2 => hv j (by omega) h2) hb'
        have head : ∃ pa pb, (part c.type xs c.offset).run P w = .ok pa w ∧ (part c.type ys c.offset).run P w = .ok pb w ∧ ∀ b', (b' = true ↔ ∀ j, i ≤ j → j < i + m → f j = g j) → (Op.equalIn 9999 c.type pa pb).run P w = .ok b' w := by
          unfold fieldInts at hm
          split at hm
          · rename_i kk hu
            cases hm
            obtain ⟨h1, h2⟩ := hv i (Nat.le_refl _) (by omega)
            have hpt : ∀ (vs : Array Value) v, vs[i]? = some v → (part c.type vs c.offset).run P w = .ok v w := fun vs v hv => by
              have : (isAgg c.type).run P w = .ok false w := by simp [isAgg, run_underlying hu]
              simp only [part, Sem.run_bind, this, Result.andThen_ok, Bool.false_eq_true, if_false, ho, hv, Sem.run_pure]
            refine ⟨_, _, hpt _ _ h1, hpt _ _ h2, fun b' hb' => ?_⟩
            rw [run_equalIn_int w 9998 c.type (k i) kk (f i) (g i) hu]
            congr 1
            rw [Bool.eq_iff_iff, hb', beq_iff_eq]
            exact ⟨fun e j h1 h2 => by rw [show j = i by omega]; exact e, fun e => e i (Nat.le_refl _) (by omega)⟩
          · rename_i m' e hu
            split at hm
            · rename_i kk ie je he hie hje
              split at hm
              · rename_i hsz
                cases hm
                have hsize : (sizeOf c.type).run P w = .ok m w := by rw [← hsz.2.1]; simp [sizeOf, typeInfo, hje]
                have hpt : ∀ (vs : Array Value), (part c.type vs c.offset).run P w = .ok (.agg (vs.extract i (i + m))) w := fun vs => by
                  have : (isAgg c.type).run P w = .ok true w := by simp [isAgg, run_underlying hu]
                  simp only [part, Sem.run_bind, this, Result.andThen_ok, if_true, ho, hsize, Sem.run_pure]
                refine ⟨_, _, hpt xs, hpt ys, fun b' hb' => ?_⟩
                rw [run_equalIn_array w 9998 _ _ hu hie, hsz.2.2]
                refine eqItems_ok (k := fun j => k (i + j)) (f := fun j => f (i + j)) (g := fun j => g (i + j)) he w _ b' (fun j hj => ?_) (hb'.trans ⟨fun hh j hj => hh _ (by omega) (by have := List.mem_range.1 hj; omega), fun hh j h1 h2 => by have := hh (j - i) (List.mem_range.2 (by omega)); rwa [show i + (j - i) = j by omega] at this⟩)
                have hj := List.mem_range.1 hj
                obtain ⟨h1, h2⟩ := hv (i + j) (by omega) (by omega)
                have l1 := (Array.getElem?_eq_some_iff.1 h1).1
                have l2 := (Array.getElem?_eq_some_iff.1 h2).1
                refine ⟨?_, ?_⟩
                · rw [Array.getElem?_extract]; rw [if_pos (by omega)]; exact h1
                · rw [Array.getElem?_extract]; rw [if_pos (by omega)]; exact h2
              · cases hm
            · cases hm
          · cases hm
        obtain ⟨pa, pb, e1, e2, e3⟩ := head
        unfold Op.eqFields
        rw [if_pos hn]
        by_cases hd : ∀ j, i ≤ j → j < i + m → f j = g j
        · have r1 := e3 true ⟨fun _ => hd, fun _ => rfl⟩
          have r2 := rest b (hb.trans ⟨fun hh j h1 h2 => hh j (by omega) h2, fun hh j h1 h2 => by
            by_cases hj : j < i + m
            · exact hd j h1 hj
            · exact hh j (by omega) h2⟩)
          simp only [Sem.run_bind, e1, e2, r1, Result.andThen_ok, Bool.not_true, Bool.false_eq_true, if_false, r2]
        · have r1 := e3 false ⟨fun h => (by cases h), fun h => absurd h hd⟩
          have : b = false := by
            cases b with
            | false => rfl
            | true => exact absurd (fun j h1 h2 => hb.1 rfl j h1 (by omega)) hd
          subst this
          simp only [Sem.run_bind, e1, e2, r1, Result.andThen_ok, Bool.not_false, if_true, Sem.run_pure]
      · cases h
    · cases h

theorem seqOf_ok {P : Program} {t : TypeId} {n : Nat} (h : seqOf P t = some n) : EqS P t n := by
  unfold seqOf at h
  split at h
  · rename_i fs hu
    split at h
    · rename_i hc
      have hf : P.fieldsOf t = fs := by simp [Program.fieldsOf, hu]
      refine ⟨hc.2, fun xs ys k f g b _ _ hv hb w => ?_⟩
      rw [show (10000 : Nat) = 9999 + 1 from rfl, run_equalIn_struct w 9999 t xs ys (by rw [hf]; exact hu) hc.1, hf]
      exact eqF_ok w fs.toList 0 n b h (fun j _ h2 => hv j h2) (hb.trans ⟨fun hh j _ h2 => hh j h2, fun hh j h2 => hh j (Nat.zero_le _) h2⟩)
    · cases h
  · cases h

def mkEnv (P : Program) (hmix : P.follows .mixedOrders = true) (glob : Nat → C) (hgl : ∀ g, noRef (glob g) = true) (tys : List TypeId := []) (nxs : List (TypeId × Nat) := []) : Env where
  P := P
  und := undOf P
  inf := infOf P
  glob := glob
  hund := fun t d h => by
    unfold undOf at h
    split at h
    · rename_i fs hu
      split at h
      · rw [hu]; exact h
      · cases h
    · exact h
  hinf := fun t s b z h => by
    unfold infOf at h
    split at h
    · rename_i i hi
      split at h
      · rename_i z' hz
        split at h
        · cases h; exact ⟨i, hi, rfl, rfl, hz⟩
        · cases h
      · cases h
    · cases h
  hz := fun t s b z h => by
    unfold infOf at h
    split at h
    · rename_i i hi
      split at h
      · rename_i z' hz
        split at h
        · rename_i hc; cases h; exact hc
        · cases h
      · cases h
    · cases h
  hfl := fun t fs h f hf => by
    unfold undOf at h
    split at h
    · rename_i fs' hu
      split at h
      · rename_i hall
        cases h
        exact Array.all_eq_true_iff_forall_mem.1 hall f hf
      · cases h
    · rename_i hn
      exact absurd h (hn fs)
  hgl := hgl
  hmix := hmix
  ty := fun t => if tys.contains t then some t else none
  nx := fun t => (nxs.find? fun p => p.1 == t).map (·.2)
  hty := fun t t' h => by split at h <;> simp_all
  seq := seqOf P
  hseq := fun t n h => seqOf_ok h

section
variable (E : Env) (ds : List (Option Nat)) (o : Oper) (l : List Oper) (T : List A) (H : Heap) (Q : List A → Heap → Prop)
theorem AOps_nil : AOps E ds [] T H Q = Q T H := propext Iff.rfl
theorem AOps_cons : AOps E ds (o :: l) T H Q = Gd (wantA ds T o.guard) E ds o l T H Q := propext Iff.rfl
theorem Gd_t : Gd (some true) E ds o l T H Q = St (isCall o.op) E ds o l T H Q := by simp [Gd, GdP]
theorem Gd_f : Gd (some false) E ds o l T H Q = AOps E ds l (putT T o.dst .und) H Q := by simp [Gd, GdP]
theorem St_t : St true E ds o l T H Q = CallK E T H o fun v H' => AOps E ds l (putT T o.dst v) H' Q := propext Iff.rfl
theorem St_f : St false E ds o l T H Q = Res (aop E T H o.op) E ds o.dst l T Q := propext Iff.rfl
theorem Res_some (v : A) (d : Option Nat) : Res (some (v, H)) E ds d l T Q = AOps E ds l (putT T d v) H Q := propext Iff.rfl
theorem Gd_b {E : Env} {ds : List (Option Nat)} {o : Oper} {l : List Oper} {T : List A} {H : Heap} {Q : List A → Heap → Prop} {b : Bool} (h1 : b = true → St (isCall o.op) E ds o l T H Q) (h2 : b = false → AOps E ds l (putT T o.dst .und) H Q) :
    Gd (some b) E ds o l T H Q := ⟨h1, h2⟩
end

section
variable (k : IntKind) (a b : Int) (s u : ByteArray)
theorem bin_add : bin .add (.int k a) (.int k b) = some (.int k (k.wrap (a + b))) := by simp [bin]
theorem bin_sub : bin .sub (.int k a) (.int k b) = some (.int k (k.wrap (a - b))) := by simp [bin]
theorem bin_mul : bin .mul (.int k a) (.int k b) = some (.int k (k.wrap (a * b))) := by simp [bin]
theorem bin_quo : bin .quo (.int k a) (.int k b) = if b = 0 then none else some (.int k (k.wrap (a.tdiv b))) := by simp [bin]
theorem bin_rem : bin .rem (.int k a) (.int k b) = if b = 0 then none else some (.int k (a.tmod b)) := by simp [bin]
theorem bin_eql : bin .eql (.int k a) (.int k b) = some (.bool (a == b)) := by simp [bin]
theorem bin_neq : bin .neq (.int k a) (.int k b) = some (.bool (a != b)) := by simp [bin]
theorem bin_lss : bin .lss (.int k a) (.int k b) = some (.bool (decide (a < b))) := by simp [bin]
theorem bin_leq : bin .leq (.int k a) (.int k b) = some (.bool (decide (a ≤ b))) := by simp [bin]
theorem bin_gtr : bin .gtr (.int k a) (.int k b) = some (.bool (decide (a > b))) := by simp [bin]
theorem bin_geq : bin .geq (.int k a) (.int k b) = some (.bool (decide (a ≥ b))) := by simp [bin]
theorem bin_seql : bin .eql (.string s) (.string u) = some (.bool (bl s == bl u)) := by simp [bin]
theorem bin_sneq : bin .neq (.string s) (.string u) = some (.bool (!(bl s == bl u))) := by simp [bin]
theorem bin_sadd : bin .add (.string s) (.string u) = if (bl s).length + (bl u).length ≤ 9223372036854775807 then some (.string (st (bl s ++ bl u))) else none := rfl
end
attribute [go_sem] bin_add bin_sub bin_mul bin_quo bin_rem bin_eql bin_neq bin_lss bin_leq bin_gtr bin_geq bin_seql bin_sneq bin_sadd
attribute [go_sem] AOps_nil AOps_cons wantA dsts dstOf truth eqW Gd_t Gd_f St_t St_f Res_some isCall aop aop1 keep put' ev cvA cvC allOne putT pT gT sv sc aBin aUn aConv aField aFieldAddr aExtract aIndexAddr aIndex aLen aNil aSlice aLoad aStore aBox aAlloc   aMake aApp aMinMax
  selA ofBool live livePtr lenA seenAt partC   cellsOf   toD  subR xsOf  evs hG hP datas eqlOf bd loOf hiOf  Sq Bk one
attribute [go_sem] if_true if_false ite_true ite_false Bool.false_eq_true Bool.true_eq_false true_and and_true false_and and_false not_true_eq_false not_false_eq_true eq_self ne_eq decide_true decide_false Bool.and_true Bool.true_and Bool.and_false Bool.false_and
  List.length_cons List.length_nil Nat.zero_add Nat.add_zero List.length_map List.map_cons List.map_nil beq_self_eq_true Bool.not_true Bool.not_false Option.isSome_some Option.map_some Option.map_none List.cons_append List.nil_append Int.toNat_natCast Int.natCast_nonneg List.append_nil beq_true
end Go.Eng
namespace Go.Eng
open Go.RowKit
set_option linter.unusedVariables false
set_option linter.unusedSimpArgs false

def frC (m : Nat) (H : Heap) : C → Option (C × Heap)
  | .nils => some (.d (.fz []), H)
  | .own id off len n => bif decide (id < m) then some (.own id off len n, H) else match toD H (.own id off len n) with | some (d, H1) => some (.d d, H1) | none => none
  | .ptr id j off n => bif decide (id < m) then some (.ptr id j off n, H) else none
  | .d x => some (.d x, H)
  | .pf cs o => some (.pf cs o, H)
  | .pa rs => some (.pa rs, H)
  | .any => some (.any, H)
  | .clo fn cs => bif okCs m cs then some (.clo fn cs, H) else none

def frCs (m : Nat) (H : Heap) : List C → Option (List C × Heap)
  | [] => some ([], H)
  | c :: l => match frC m H c with
    | some (c', H1) => match frCs m H1 l with | some (l', H2) => some (c' :: l', H2) | none => none
    | none => none

mutual
def frA (m : Nat) (H : Heap) : A → Option (A × Heap)
  | .c c => match frC m H c with | some (c', H1) => some (.c c', H1) | none => none
  | .agg cs => match frCs m H cs with | some (cs', H1) => some (.agg cs', H1) | none => none
  | .tup l => match frAs m H l with | some (l', H1) => some (.tup l', H1) | none => none
  | .und => some (.und, H)
  | .any => some (.any, H)
def frAs (m : Nat) (H : Heap) : List A → Option (List A × Heap)
  | [] => some ([], H)
  | a :: l => match frA m H a with
    | some (a', H1) => match frAs m H1 l with | some (l', H2) => some (a' :: l', H2) | none => none
    | none => none
end

mutual
def okR (m : Nat) : A → Bool
  | .c c => okC m c
  | .agg cs => okCs m cs
  | .tup l => okRs m l
  | .und => true
  | .any => true
def okRs (m : Nat) : List A → Bool
  | [] => true
  | a :: l => okR m a && okRs m l
end

theorem okRs_mem {k : Nat} : ∀ {l : List A}, okRs k l = true → ∀ c ∈ l, okR k c = true
  | [], _, c, h => by simp at h
  | a :: l, h, c, hc => by
    simp only [okRs, Bool.and_eq_true] at h
    rcases List.mem_cons.1 hc with rfl | hc
    · exact h.1
    · exact okRs_mem h.2 c hc

theorem toD_len {H H' : Heap} {c : C} {d : D} (h : toD H c = some (d, H')) : H'.length = H.length := by
  unfold toD at h
  split at h
  · cases h; rfl
  · cases h; rfl
  · split at h
    · split at h
      · cases h; rw [hP_eq, List.length_set]
      · cases h
    · cases h
  · cases h

theorem frC_ok {B : Base} {x : Ctx} {O : Nat → Nat → Prop} {H : Heap} (hR : Rel B x O H) {m : Nat} {c c' : C} {H' : Heap} {v : Value} (hv : VR x c v) (h : frC m H c = some (c', H')) :
    ∃ y O', y.w = x.w ∧ x.Le y ∧ Rel B y O' H' ∧ VR y c' v ∧ H'.length = H.length := by
  cases c with
  | nils =>
    cases h
    cases hv with | nils => exact ⟨x, O, rfl, .refl x, hR, .d _ _ (.nil _ _), rfl⟩
  | own id off len n =>
    simp only [frC] at h
    cases hd : decide (id < m) with
    | true => rw [hd] at h; cases h; exact ⟨x, O, rfl, .refl x, hR, hv, rfl⟩
    | false =>
      rw [hd] at h
      simp only [cond_false] at h
      split at h
      · rename_i d H1 h1
        cases h
        obtain ⟨y, O', e1, l1, R1, D1⟩ := toD_ok hR hv h1
        exact ⟨y, O', e1, l1, R1, .d _ _ D1, toD_len h1⟩
      · cases h
  | ptr id j off n =>
    simp only [frC] at h
    cases hd : decide (id < m) with
    | true => rw [hd] at h; cases h; exact ⟨x, O, rfl, .refl x, hR, hv, rfl⟩
    | false => rw [hd] at h; cases h
  | clo fn cs =>
    simp only [frC] at h
    cases hd : okCs m cs with
    | true => rw [hd] at h; cases h; exact ⟨x, O, rfl, .refl x, hR, hv, rfl⟩
    | false => rw [hd] at h; cases h
  | _ => cases h; exact ⟨x, O, rfl, .refl x, hR, hv, rfl⟩

theorem frCs_ok : ∀ {cs cs' : List C} {B : Base} {x : Ctx} {O : Nat → Nat → Prop} {H H' : Heap} {m : Nat} {vs : List Value}, Rel B x O H → vs.length = cs.length → (∀ (i : Nat) c, cs[i]? = some c → ∃ u, vs[i]? = some u ∧ VR x c u) → frCs m H cs = some (cs', H') →
    ∃ y O', y.w = x.w ∧ x.Le y ∧ Rel B y O' H' ∧ cs'.length = cs.length ∧ (∀ (i : Nat) c, cs'[i]? = some c → ∃ u, vs[i]? = some u ∧ VR y c u) ∧ H'.length = H.length
  | [], cs', B, x, O, H, H', m, vs, hR, hl, hv, h => by cases h; exact ⟨x, O, rfl, .refl x, hR, rfl, fun i c hc => by simp at hc, rfl⟩
  | c :: cs, cs', B, x, O, H, H', m, [], hR, hl, hv, h => by simp at hl
  | c :: cs, cs', B, x, O, H, H', m, v :: vs, hR, hl, hv, h => by
    simp only [frCs] at h
    split at h
    · rename_i c1 H1 h1
      split at h
      · rename_i l2 H2 h2
        cases h
        obtain ⟨u, hu, hvu⟩ := hv 0 c rfl
        cases hu
        obtain ⟨y, O1, e1, l1, R1, V1, n1⟩ := frC_ok hR hvu h1
        obtain ⟨z, O2, e2, l2, R2, len2, V2, n2⟩ := frCs_ok R1 (by simpa using hl) (fun i c hc => let ⟨u, hu, hvu⟩ := hv (i + 1) c hc; ⟨u, by simpa using hu, hvu.mono l1⟩) h2
        refine ⟨z, O2, e2.trans e1, l1.trans l2, R2, by simp [len2], fun i d' hd => ?_, n2.trans n1⟩
        cases i with
        | zero => cases hd; exact ⟨v, rfl, V1.mono l2⟩
        | succ i => obtain ⟨u, hu, hd'⟩ := V2 i d' (by simpa using hd); exact ⟨u, by simpa using hu, hd'⟩
      · cases h
    · cases h

mutual
theorem frA_ok : ∀ {a a' : A} {B : Base} {x : Ctx} {O : Nat → Nat → Prop} {H H' : Heap} {m : Nat} {v : Value}, Rel B x O H → VA x a v → frA m H a = some (a', H') →
    ∃ y O', y.w = x.w ∧ x.Le y ∧ Rel B y O' H' ∧ VA y a' v ∧ H'.length = H.length
  | .c c, a', B, x, O, H, H', m, v, hR, hv, h => by
    simp only [frA] at h
    split at h
    · rename_i c1 H1 h1
      cases h
      obtain ⟨y, O1, e1, l1, R1, V1, n1⟩ := frC_ok hR (VA.inv hv) h1
      exact ⟨y, O1, e1, l1, R1, .c _ _ V1, n1⟩
    · cases h
  | .agg cs, a', B, x, O, H, H', m, v, hR, hv, h => by
    simp only [frA] at h
    split at h
    · rename_i c1 H1 h1
      cases h
      cases hv with | agg _ vs hv =>
      obtain ⟨y, O1, e1, l1, R1, len1, V1, n1⟩ := frCs_ok (vs := vs.toList) hR (by simpa using hv.1) (fun i c hc => let ⟨u, h1, h2⟩ := hv.2 i c hc; ⟨u, by simpa using h1, h2⟩) h1
      exact ⟨y, O1, e1, l1, R1, .agg _ _ ⟨by rw [hv.1, len1], fun i c hc => let ⟨u, h1, h2⟩ := V1 i c hc; ⟨u, by simpa using h1, h2⟩⟩, n1⟩
    · cases h
  | .tup l, a', B, x, O, H, H', m, v, hR, hv, h => by
    simp only [frA] at h
    split at h
    · rename_i c1 H1 h1
      cases h
      cases hv with | tup _ vs u hl h2 h3 =>
      obtain ⟨y, O1, e1, l1, R1, len1, V1, n1⟩ := frAs_ok (vs := vs.toList) hR (by simpa using hl) (fun i c hc => ⟨u i, by simpa using h2 i c hc, h3 i c hc⟩) h1
      refine ⟨y, O1, e1, l1, R1, .tup _ _ (fun i => vs.getD i undef) (by rw [hl, len1]) (fun i c hc => ?_) (fun i c hc => ?_), n1⟩
      · obtain ⟨w, q1, q2⟩ := V1 i c hc
        have q1' : vs[i]? = some w := by simpa using q1
        simp [Array.getD_eq_getD_getElem?, q1']
      · obtain ⟨w, q1, q2⟩ := V1 i c hc
        have q1' : vs[i]? = some w := by simpa using q1
        simpa [Array.getD_eq_getD_getElem?, q1'] using q2
    · cases h
  | .und, a', B, x, O, H, H', m, v, hR, hv, h => by simp only [frA] at h; cases h; exact ⟨x, O, rfl, .refl x, hR, hv, rfl⟩
  | .any, a', B, x, O, H, H', m, v, hR, hv, h => by simp only [frA] at h; cases h; exact ⟨x, O, rfl, .refl x, hR, hv, rfl⟩
theorem frAs_ok : ∀ {cs cs' : List A} {B : Base} {x : Ctx} {O : Nat → Nat → Prop} {H H' : Heap} {m : Nat} {vs : List Value}, Rel B x O H → vs.length = cs.length → (∀ (i : Nat) c, cs[i]? = some c → ∃ u, vs[i]? = some u ∧ VA x c u) → frAs m H cs = some (cs', H') →
    ∃ y O', y.w = x.w ∧ x.Le y ∧ Rel B y O' H' ∧ cs'.length = cs.length ∧ (∀ (i : Nat) c, cs'[i]? = some c → ∃ u, vs[i]? = some u ∧ VA y c u) ∧ H'.length = H.length
  | [], cs', B, x, O, H, H', m, vs, hR, hl, hv, h => by simp only [frAs] at h; cases h; exact ⟨x, O, rfl, .refl x, hR, rfl, fun i c hc => by simp at hc, rfl⟩
  | c :: cs, cs', B, x, O, H, H', m, [], hR, hl, hv, h => by simp at hl
  | c :: cs, cs', B, x, O, H, H', m, v :: vs, hR, hl, hv, h => by
    simp only [frAs] at h
    split at h
    · rename_i c1 H1 h1
      split at h
      · rename_i l2 H2 h2
        cases h
        obtain ⟨u, hu, hvu⟩ := hv 0 c rfl
        cases hu
        obtain ⟨y, O1, e1, l1, R1, V1, n1⟩ := frA_ok hR hvu h1
        obtain ⟨z, O2, e2, l2, R2, len2, V2, n2⟩ := frAs_ok R1 (by simpa using hl) (fun i c hc => let ⟨u, hu, hvu⟩ := hv (i + 1) c hc; ⟨u, by simpa using hu, hvu.mono l1⟩) h2
        refine ⟨z, O2, e2.trans e1, l1.trans l2, R2, by simp [len2], fun i d' hd => ?_, n2.trans n1⟩
        cases i with
        | zero => cases hd; exact ⟨v, rfl, V1.mono l2⟩
        | succ i => obtain ⟨u, hu, hd'⟩ := V2 i d' (by simpa using hd); exact ⟨u, by simpa using hu, hd'⟩
      · cases h
    · cases h
end

theorem VA.cut {x y : Ctx} {k : Nat} (hw : y.w = x.w) (hF : y.F = x.F) (hμ : y.μ = x.μ) (hL : y.L = k) (hN : ∀ id, id < k → y.N id = x.N id) {a : A} {v : Value} (h : VA x a v) : okR k a = true → VA y a v := by
  induction h with
  | c c v h => intro hk; exact .c _ _ (h.cut hw hF hμ hL hN (by simpa [okR] using hk))
  | agg cs vs h =>
    intro hk
    simp only [okR] at hk
    exact .agg _ _ ⟨h.1, fun i c hc => let ⟨u, h1, h2⟩ := h.2 i c hc; ⟨u, h1, h2.cut hw hF hμ hL hN (okCs_mem hk c (List.mem_of_getElem? hc))⟩⟩
  | tup l vs u hl hu hv ih =>
    intro hk
    simp only [okR] at hk
    exact .tup _ _ u hl hu (fun i c hc => ih i c hc (okRs_mem hk c (List.mem_of_getElem? hc)))
  | und => intro _; exact .und
  | any v => intro _; exact .any v

theorem fin_wk {m : Nat} {a a' : A} {H H1 : Heap} (h : frA m H a = some (a', H1)) (hok : okR m a' = true) (hm : m ≤ H.length) : Wk m [a] H [a'] (cutH m m H1) := by
  intro B ac w hBm hs
  obtain ⟨hd, x, O, rfl, hR, hT⟩ := hs
  obtain ⟨u, hu, hv⟩ := hT.2 0 a rfl
  obtain ⟨y, O1, e1, l1, R1, V1, n1⟩ := frA_ok hR hv h
  have hs1 : SR B [] H1 ⟨#[], []⟩ x.w := ⟨rfl, y, O1, e1, R1, rfl, fun i b hb => by simp at hb⟩
  obtain ⟨q1, q2⟩ := cutH_get m m H1 (by omega)
  let z : Ctx := { w := y.w, F := y.F, μ := y.μ, N := nOf (cutH m m H1), L := m }
  have hNk : ∀ id, id < m → z.N id = y.N id := fun id hid => by
    rw [R1.hN]
    show nOf (cutH m m H1) id = _
    unfold nOf
    rw [q2 id, if_pos hid]
    cases hH : H1[id]? with
    | none => rfl
    | some b =>
      cases b with
      | none => rfl
      | some b => cases b <;> rfl
  have hcs : ∀ {cs : List C} {vs : Array Value}, CsR y cs vs → CsR z (cutCells m cs) vs := fun h => by
    refine ⟨by rw [cutCells_eq]; simpa using h.1, fun i c hi => ?_⟩
    rw [cutCells_eq, List.getElem?_map, Option.map_eq_some_iff] at hi
    obtain ⟨c', hc', rfl⟩ := hi
    obtain ⟨u, hu, hv⟩ := h.2 i c' hc'
    exact ⟨u, hu, VR.cutCell (x := y) (y := z) (k := m) rfl rfl rfl rfl hNk hv⟩
  refine ⟨hd, z, O1, e1, ⟨by show m = _; rw [q1], fun _ => rfl, ?_, R1.os, R1.tape, R1.output, R1.keep, R1.own, R1.fr, R1.disj, R1.nof, fun id b hb => ?_⟩, hT.1, fun i b hb => ?_⟩
  · refine ⟨R1.le.F, R1.le.size, by show B.x.L ≤ m; omega, fun id hid s n hn => ?_⟩
    have hid' : id < m := by omega
    rw [hNk id hid'] at hn
    exact R1.le.N id hid s n hn
  · rw [q2 id] at hb
    split at hb
    · rename_i hid
      rw [Option.map_eq_some_iff] at hb
      obtain ⟨b', hb', he⟩ := hb
      cases b' with
      | none => simp [cutB] at he
      | some b' =>
        have hB := R1.blk id b' hb'
        cases b' with
        | box cs =>
          simp only [cutB, Option.some.injEq] at he
          subst he
          obtain ⟨g, vs, t, h1, h2, h3, h4⟩ := hB
          exact ⟨g, vs, t, h1, h2, h3, hcs h4⟩
        | rows s rs =>
          simp only [cutB, Option.some.injEq] at he
          subst he
          exact hB
        | mp es =>
          simp only [cutB, Option.some.injEq] at he
          subst he
          exact hB
        | raw r =>
          simp only [cutB, Option.some.injEq] at he
          subst he
          exact hB
    · cases hb
  · cases i with
    | zero => cases hb; exact ⟨u, hu, V1.cut (x := y) (y := z) rfl rfl rfl rfl hNk hok⟩
    | succ i => simp at hb

theorem fin_ret {E : Env} {rs : List ResultVar} {l : List A} {T : List A} {H H1 H' : Heap} {m : Nat} {r r0 : A} (h1 : resA E T H rs = some l) (h2 : frA m H (oneRes l) = some (r0, H1)) (h3 : okR m r0 = true) (hm : m ≤ H.length) (h4 : cutH m m H1 = H') (h5 : r0 = r) :
    Fin E rs r H' m .ret T H := ⟨l, h1, by subst h4; subst h5; exact fin_wk h2 h3 hm⟩
theorem fin_norm {E : Env} {rs : List ResultVar} {l : List A} {T : List A} {H H1 H' : Heap} {m : Nat} {r r0 : A} (h1 : resA E T H rs = some l) (h2 : frA m H (oneRes l) = some (r0, H1)) (h3 : okR m r0 = true) (hm : m ≤ H.length) (h4 : cutH m m H1 = H') (h5 : r0 = r) :
    Fin E rs r H' m .normal T H := ⟨l, h1, by subst h4; subst h5; exact fin_wk h2 h3 hm⟩

theorem awp_cond_t {E : Env} {c : Operand} {x y : Code} {T : List A} {H : Heap} {Q : Exit → List A → Heap → Prop} {m : Nat} (hc : ofBool (ev E T c) = some true) (h1 : AWP E x T H Q m) : AWP E (.cond c x y) T H Q m := awp_cond hc (fun _ => h1) (fun h => by cases h)
theorem awp_cond_f {E : Env} {c : Operand} {x y : Code} {T : List A} {H : Heap} {Q : Exit → List A → Heap → Prop} {m : Nat} (hc : ofBool (ev E T c) = some false) (h1 : AWP E y T H Q m) : AWP E (.cond c x y) T H Q m := awp_cond hc (fun h => by cases h) (fun _ => h1)

attribute [go_sem]   frC  okR okRs okC okCs  oneRes cutH cutB cutCells cutCell cutT cutA cond_true cond_false Nat.le_refl Nat.zero_le
end Go.Eng
namespace Go.Eng
open Go.RowKit
set_option linter.unusedVariables false
set_option linter.unusedSimpArgs false

def opsDsts : List Oper → List Nat
  | [] => []
  | o :: l => match o.dst with | some d => d :: opsDsts l | none => opsDsts l

def codeDsts : Code → List Nat
  | .region _ ops _ => opsDsts ops.toList
  | .seq a b => codeDsts a ++ codeDsts b
  | .cond _ a b => codeDsts a ++ codeDsts b
  | .block _ c => codeDsts c
  | .loop c => codeDsts c
  | .scope c => codeDsts c
  | _ => []

def clrT : List Nat → List A → List A
  | [], T => T
  | d :: l, T => clrT l (pT T d .any)

def updT : List (Nat × A) → List A → List A
  | [], T => T
  | (d, a) :: l, T => updT l (pT T d a)

section
variable {E : Env} {T : List A} {H : Heap} {Q : Exit → List A → Heap → Prop} {m : Nat}

theorem awp_loopT {α : Type} {c : Code} (I : α → Prop) (μ : α → Nat) (f : α → List (Nat × A)) (h : α → Heap) (i0 : α) (h0 : I i0) (hs0 : Wk m T H (updT (f i0) (clrT (codeDsts c) T)) (h i0))
    (round : ∀ i, I i → AWP E c (updT (f i) (clrT (codeDsts c) T)) (h i) (Sq (fun T' H' => ∃ j, I j ∧ μ j < μ i ∧ Wk m T' H' (updT (f j) (clrT (codeDsts c) T)) (h j)) Q) m) : AWP E (.loop c) T H Q m :=
  awp_loop I (fun i => (updT (f i) (clrT (codeDsts c) T), h i)) μ i0 h0 hs0 round

theorem awp_cut {α : Type} {c d : Code} (I : α → Prop) (f : α → List (Nat × A)) (h : α → Heap) (h1 : AWP E c T H (Sq (fun T' H' => ∃ j, I j ∧ Wk m T' H' (updT (f j) (clrT (codeDsts c) T)) (h j)) Q) m)
    (h2 : ∀ i, I i → AWP E d (updT (f i) (clrT (codeDsts c) T)) (h i) Q m) : AWP E (.seq c d) T H Q m := by
  refine awp_seq ?_
  intro B a w hB hm hs
  refine wp_mono (h1 B a w hB hm hs) ?_
  rintro e a' w' ⟨T', H', hq, hs'⟩
  cases e with
  | normal =>
    obtain ⟨j, hj, hw⟩ := hq
    exact ⟨_, _, h2 j hj, hw B a' w' hm hs'⟩
  | _ => exact ⟨T', H', hq, hs'⟩

theorem awp_cut1 {c d : Code} (f : List (Nat × A)) (h : Heap) (h1 : AWP E c T H (Sq (fun T' H' => Wk m T' H' (updT f (clrT (codeDsts c) T)) h) Q) m)
    (h2 : AWP E d (updT f (clrT (codeDsts c) T)) h Q m) : AWP E (.seq c d) T H Q m :=
  awp_cut (fun _ : Unit => True) (fun _ => f) (fun _ => h) (awp_mono h1 (fun e T H hq => by cases e <;> first | exact ⟨(), trivial, hq⟩ | exact hq)) (fun _ _ => h2)

theorem wk_cl {T' : List A} {H' : Heap} (k : Nat) (hmk : m ≤ k) (hk : k ≤ H.length) (h1 : LeT (cutT k T) T') (h2 : LeH (cutH k k H) H') : Wk m T H T' H' := (wk_cut hmk hk).trans (wk_le h1 h2)

theorem LeA_any (a : A) : LeA a .any = True := by cases a <;> rfl
theorem LeA_c (a : A) (c : C) : LeA a (.c c) = (a = .c c) := by cases a <;> rfl
theorem LeA_agg (a : A) (c : List C) : LeA a (.agg c) = (a = .agg c) := by cases a <;> rfl
theorem LeA_tup (a : A) (c : List A) : LeA a (.tup c) = (a = .tup c) := by cases a <;> rfl
theorem LeA_und (a : A) : LeA a .und = (a = .und) := by cases a <;> rfl
theorem LeT_nil : LeT [] [] = True := rfl
theorem LeT_cons (a b : A) (l l' : List A) : LeT (a :: l) (b :: l') = (LeA a b ∧ LeT l l') := rfl
theorem LeH_nil : LeH [] [] = True := rfl
theorem LeH_cons (a b : Option Blk) (l l' : Heap) : LeH (a :: l) (b :: l') = (LeB a b ∧ LeH l l') := rfl
theorem LeB_none (a : Option Blk) : LeB a none = True := by cases a <;> rfl
theorem LeB_some (a : Option Blk) (b : Blk) : LeB a (some b) = (a = some b) := by cases a <;> rfl
end

attribute [go_sem] opsDsts codeDsts clrT updT LeA_any LeA_c LeA_agg LeA_tup LeA_und LeT_nil LeT_cons LeH_nil LeH_cons LeB_none LeB_some
end Go.Eng
namespace Go.Eng
open Go.RowKit
set_option linter.unusedVariables false
set_option linter.unusedSimpArgs false

theorem evs_congr {E : Env} {T T' : List A} {l : List (Nat × Operand)} (h : ∀ y, y ∈ l.map (·.2) → ev E T y = ev E T' y) : evs E T l = evs E T' l := by
  unfold evs
  refine List.map_congr_left fun p hp => ?_
  rw [h p.2 (List.mem_map_of_mem hp)]

theorem aop_congr {E : Env} {T T' : List A} {H : Heap} (op : Op) (h : ∀ y, y ∈ op.operands.toList → ev E T y = ev E T' y) : aop E T H op = aop E T' H op := by
  cases op with
  | call c =>
    obtain ⟨callee, args, ats⟩ := c
    have ha : ∀ y, y ∈ args.toList → ev E T y = ev E T' y := fun y hy => h y (by simp [Op.operands, Call.operands]; exact .inr (by simpa using hy))
    cases callee with
    | value f => simp only [aop, aop1]
    | invoke r n => simp only [aop, aop1]
    | builtin b =>
      cases b <;> simp only [aop, aop1]
      case append =>
        split
        · rename_i s y t t2 h1 h2
          rw [ha s (by rw [h1]; simp), ha y (by rw [h1]; simp)]
        · rfl
      case len =>
        congr 1
        split
        · rename_i y t h1 h2; rw [ha y (by rw [h1]; simp)]
        · rfl
      case max =>
        congr 1
        split
        · rename_i y z h1; rw [ha y (by rw [h1]; simp), ha z (by rw [h1]; simp)]
        · rfl
      case min =>
        congr 1
        split
        · rename_i y z h1; rw [ha y (by rw [h1]; simp), ha z (by rw [h1]; simp)]
        · rfl
  | build t ps =>
    simp only [aop]
    rw [evs_congr (T' := T') (fun y hy => h y (by simpa [Op.operands] using hy))]
  | buildSlice t n ps =>
    simp only [aop]
    rw [evs_congr (T' := T') (fun y hy => h y (by simpa [Op.operands] using hy))]
  | makeFunc fn first caps =>
    simp only [aop, aop1]
    have : caps.toList.map (ev E T) = caps.toList.map (ev E T') := List.map_congr_left fun y hy => h y (by simp [Op.operands]; exact .inr (by simpa using hy))
    rw [this]
  | makeMap t r =>
    simp only [aop]
    have : r.map (ev E T) = r.map (ev E T') := by cases r <;> simp_all [Op.operands]
    rw [this]
  | slice t y lo hi mx =>
    simp only [aop, aop1]
    have h1 := h y (by simp [Op.operands])
    have h2 : lo.map (ev E T) = lo.map (ev E T') := by cases lo <;> simp_all [Op.operands]
    have h3 : hi.map (ev E T) = hi.map (ev E T') := by cases hi <;> simp_all [Op.operands]
    rw [h1, h2, h3]
  | _ => first
    | (simp only [aop, aop1]; done)
    | (simp only [aop, aop1]; simp only [Op.operands, List.mem_cons, List.not_mem_nil, or_false, forall_eq_or_imp, forall_eq] at h; simp only [h]; done)
    | (simp only [aop, aop1]; simp only [Op.operands, List.mem_cons, List.not_mem_nil, or_false, forall_eq_or_imp, forall_eq] at h; first | rw [h] | rw [h.1, h.2] | rw [h.1, h.2.1, h.2.2])

def OpY (E : Env) (T : List A) (H : Heap) (o : Oper) (v : A) (H' : Heap) : Prop :=
  ∀ (B : Base) (x : Ctx) (O : Nat → Nat → Prop) (a : Act) (K : Act → World → Prop) (Q : Exit → Act → World → Prop), B.ok E → Rel B x O H → a.defers = [] → a.tmps.size = T.length →
    (∀ y, y ∈ o.op.operands.toList → VA x (ev E T y) (a.eval y)) →
    (∀ v' x' O', x.Le x' → Rel B x' O' H' → VA x' v v' → K (a.put o.dst v') x'.w) → o.wp E.P a x.w K Q

def seen (l : List Operand) : List A → Nat → List A
  | [], _ => []
  | a :: T, i => (if l.any (fun y => match y with | .tmp t => t == i | _ => false) = true then a else .any) :: seen l T (i + 1)

theorem seen_get (l : List Operand) : ∀ (T : List A) (i j : Nat), (seen l T i)[j]? = (T[j]?).map fun a => if l.any (fun y => match y with | .tmp t => t == i + j | _ => false) = true then a else .any
  | [], _, _ => by simp [seen]
  | a :: T, i, 0 => by simp [seen]
  | a :: T, i, j + 1 => by
    simp only [seen, List.getElem?_cons_succ]
    rw [seen_get l T (i + 1) j]
    simp only [Nat.add_assoc, Nat.add_comm 1 j]

theorem seen_length (l : List Operand) : ∀ (T : List A) (i : Nat), (seen l T i).length = T.length
  | [], _ => rfl
  | a :: T, i => by simp [seen, seen_length l T (i + 1)]

theorem seen_ev {E : Env} {l : List Operand} {T : List A} {y : Operand} (h : y ∈ l) : ev E (seen l T 0) y = ev E T y := by
  cases y with
  | tmp t =>
    simp only [ev, gT_eq, seen_get]
    cases hT : T[t]? with
    | none => rfl
    | some a =>
      have : l.any (fun y => match y with | .tmp t' => t' == 0 + t | _ => false) = true := List.any_eq_true.2 ⟨.tmp t, h, by simp⟩
      simp only [Option.map_some, Option.getD_some]
      exact if_pos this
  | _ => rfl

theorem Yld.y {E : Env} {T : List A} {H : Heap} {o : Oper} {v : A} {H' : Heap} (h : aop E T H o.op = some (v, H')) : OpY E T H o v H' := by
  intro B x O a K Q hB hR hd hsz hop hk
  have h' : aop E (seen o.op.operands.toList T 0) H o.op = some (v, H') := by
    rw [← h]
    exact aop_congr o.op (fun y hy => seen_ev hy)
  have hT : TR x (seen o.op.operands.toList T 0) a.tmps := by
    refine ⟨by rw [seen_length, hsz], fun i b hb => ?_⟩
    rw [seen_get, Option.map_eq_some_iff] at hb
    obtain ⟨a0, ha0, rfl⟩ := hb
    have hlt : i < a.tmps.size := by rw [hsz]; exact (List.getElem?_eq_some_iff.1 ha0).1
    refine ⟨a.tmps[i], by simp [hlt], ?_⟩
    split
    · rename_i hany
      obtain ⟨y, hy, hyt⟩ := List.any_eq_true.1 hany
      cases y <;> simp at hyt
      subst hyt
      have := hop _ hy
      simp only [ev, gT_eq, ha0, Option.getD_some, Act.eval] at this
      rw [Array.getD_eq_getD_getElem?] at this
      simpa [hlt] using this
    · exact .any _
  obtain ⟨n, v', w', h1, h2, y, O', rfl, hle, hR', hv⟩ := aop_ok h' B x O a hB hR hT
  have hk' : K (a.put o.dst v') y.w := hk v' y O' hle hR' hv
  unfold Oper.wp
  rw [h1]
  rcases h2 with rfl | ⟨rfl, rfl⟩
  · exact hk'
  · exact hk'

theorem callY {E : Env} {T : List A} {H : Heap} {o : Oper} (sel : List Nat) {f : FuncId} {al : List A} {Hl Hl' : Heap} {rl : A} (hf : AFn E f al Hl rl Hl') {fo : Operand} {as : Array Operand} {caps : List C}
    (ho : opIs o fo as) (hfo : ev E T fo = .c (.clo (.func f) caps)) (hargs : as.toList.map (ev E T) ++ caps.map .c = renAs (gl sel H.length) al)
    (hnd : sel.Nodup) (hsel : ∀ s ∈ sel, s < H.length) (hlen : Hl.length = sel.length) (hH : ∀ (k : Nat) b, Hl[k]? = some b → H[gl sel H.length k]? = some (renB (gl sel H.length) b))
    (hoA : okAs Hl.length al = true) (hoH : okH Hl.length Hl = true) : OpY E T H o (renA (gl sel H.length) rl) (mrg (gl sel H.length) sel Hl' H) := by
  intro B x O a K Q hB hR hd hsz hop hk
  obtain ⟨ts, ho⟩ := ho
  have hmem : ∀ y, y = fo ∨ y ∈ as.toList → y ∈ o.op.operands.toList := fun y hy => by
    rw [ho]
    simp only [Op.operands, Call.operands, Array.toList_append, List.mem_append]
    rcases hy with rfl | hy
    · exact .inl (by simp)
    · exact .inr hy
  have hfe := VA.inv (hfo ▸ hop fo (hmem fo (.inl rfl)))
  generalize hfv : a.eval fo = fv at hfe
  cases hfe with | clo _ _ cvs u hl hu hv =>
  have hrun : (execOp a.eval o).run E.P x.w = .ok (.enter f (as.map a.eval ++ cvs)) x.w := by
    unfold execOp
    rw [ho]
    simp only [resolve, hfv, Deferred.ofValue, invoke, pure_bind, Array.empty_append, Sem.run_bind, Sem.run_pure, Result.andThen_ok, callFunc_run hf.1]
  have hargs' : TR x (renAs (gl sel H.length) al) (as.map a.eval ++ cvs) := by
    rw [← hargs]
    refine ⟨by simp [hl], fun i c hi => ?_⟩
    by_cases hlt : i < as.size
    · rw [List.getElem?_append_left (by simpa using hlt)] at hi
      rw [List.getElem?_map, Option.map_eq_some_iff] at hi
      obtain ⟨y, hy, rfl⟩ := hi
      refine ⟨a.eval y, ?_, hop y (hmem y (.inr (List.mem_of_getElem? hy)))⟩
      have hy' : as[i]? = some y := by simpa using hy
      rw [Array.getElem?_append_left (by simpa using hlt)]
      simp [hy']
    · rw [List.getElem?_append_right (by simp; omega)] at hi
      rw [List.getElem?_map, Option.map_eq_some_iff] at hi
      obtain ⟨c', hc', rfl⟩ := hi
      refine ⟨u (i - as.size), ?_, .c _ _ (hv _ c' (by simpa using hc'))⟩
      rw [Array.getElem?_append_right (by simp; omega)]
      have := hu _ c' hc'
      simpa using this
  unfold Oper.wp
  rw [hrun]
  show Calls _ _ _ _ _
  refine Calls.mono (call_ok (r := id) (args := id) hf hB hR hnd hsel hlen hH hoA hoH hargs') ?_
  rintro e w' ⟨v, rfl, y, O', rfl, hle, hR', hv'⟩
  exact hk v y O' hle hR' hv'

end Go.Eng
namespace Go.Eng
open Go.RowKit
set_option linter.unusedVariables false
set_option linter.unusedSimpArgs false


def bindsOf (o : Oper) : List Nat := (o.after.toList.filter fun e => Region.binds .any e).map (·.on)

def ancsGo : List Oper → List (List Nat) → List (List Nat)
  | [], acc => acc
  | o :: l, acc => ancsGo l (acc ++ [(bindsOf o).flatMap fun j => j :: acc.getD j []])

def ancs (ops : List Oper) : List (List Nat) := ancsGo ops []

def looks (ops : List Oper) (o : Oper) : List Nat :=
  (o.op.operands.toList.filterMap fun | .tmp t => some t | _ => none) ++ match o.guard with | some (j, _) => (dstOf (dsts ops) j).toList | none => []

def rgOk (ops : List Oper) (wr am : List Bool) : Bool :=
  let A := ancs ops
  let n := ops.length
  (List.range n).all fun i => match ops[i]? with
    | none => true
    | some o =>
      (bindsOf o).all (fun j => decide (j < i)) &&
      (match o.guard with | some (j, _) => (A.getD i []).contains j | none => true) &&
      (List.range n).all fun j => match ops[j]? with
        | none => true
        | some p => i == j ||
          ((match o.dst, p.dst with | some d, some e => d != e | _, _ => true) &&
           (match p.dst with | some d => !(looks ops o).contains d || (A.getD i []).contains j || (A.getD j []).contains i | none => true) &&
           (!(wr.getD i false) || !(wr.getD j false) || (A.getD i []).contains j || (A.getD j []).contains i) &&
           (wr.getD i false || !(wr.getD j false) || am.getD i false || (A.getD i []).contains j || (A.getD j []).contains i) &&
           (wr.getD i false || !(wr.getD j false) || !(am.getD i false) || !(am.getD j false) || (A.getD j []).contains i))

theorem ancsGo_acc : ∀ (l : List Oper) (acc : List (List Nat)), ∃ t, ancsGo l acc = acc ++ t ∧ t.length = l.length
  | [], acc => ⟨[], by simp [ancsGo], rfl⟩
  | o :: l, acc => by
    obtain ⟨t, h1, h2⟩ := ancsGo_acc l (acc ++ [(bindsOf o).flatMap fun j => j :: acc.getD j []])
    exact ⟨_ :: t, by simp only [ancsGo]; rw [h1]; simp; rfl, by simp [h2]⟩

theorem ancsGo_get : ∀ (l : List Oper) (acc : List (List Nat)) (k : Nat) (o : Oper), l[k]? = some o → (ancsGo l acc).getD (acc.length + k) [] = (bindsOf o).flatMap fun j => j :: ((ancsGo l acc).take (acc.length + k)).getD j []
  | [], acc, k, o, h => by simp at h
  | p :: l, acc, 0, o, h => by
    cases h
    simp only [ancsGo, Nat.add_zero]
    obtain ⟨t, h1, h2⟩ := ancsGo_acc l (acc ++ [(bindsOf p).flatMap fun j => j :: acc.getD j []])
    rw [h1]
    have e1 : (acc ++ [(bindsOf p).flatMap fun j => j :: acc.getD j []] ++ t).take acc.length = acc := by rw [List.append_assoc]; exact List.take_left
    rw [e1]
    simp [List.getD_eq_getElem?_getD]
  | p :: l, acc, k + 1, o, h => by
    have := ancsGo_get l (acc ++ [(bindsOf p).flatMap fun j => j :: acc.getD j []]) k o (by simpa using h)
    simp only [ancsGo]
    simp only [List.length_append, List.length_cons, List.length_nil, Nat.zero_add] at this
    rw [show acc.length + (k + 1) = acc.length + 1 + k by omega]
    exact this

theorem ancs_get {ops : List Oper} {i : Nat} {o : Oper} (h : ops[i]? = some o) {j : Nat} (hj : j ∈ (ancs ops).getD i []) : ∃ k, k ∈ bindsOf o ∧ (j = k ∨ k < i ∧ j ∈ (ancs ops).getD k []) := by
  have := ancsGo_get ops [] i o h
  simp only [List.length_nil, Nat.zero_add] at this
  unfold ancs at hj
  rw [this] at hj
  simp only [List.mem_flatMap, List.mem_cons] at hj
  obtain ⟨k, hk, hj⟩ := hj
  refine ⟨k, hk, hj.imp id fun hj => ?_⟩
  simp only [List.getD_eq_getElem?_getD, List.getElem?_take] at hj
  split at hj
  · rename_i hlt
    exact ⟨hlt, by unfold ancs; rw [List.getD_eq_getElem?_getD]; exact hj⟩
  · simp at hj

theorem anc_closed {ops : List Oper} {L : Nat → Prop} (hc : ∀ i o, L i → ops[i]? = some o → ∀ j, j ∈ bindsOf o → L j) : ∀ (i : Nat) (o : Oper), ops[i]? = some o → L i → ∀ j, j ∈ (ancs ops).getD i [] → L j := by
  intro i
  induction i using Nat.strongRecOn with
  | _ i ih =>
    intro o ho hi j hj
    obtain ⟨k, hk, hj⟩ := ancs_get ho hj
    have hLk := hc i o hi ho k hk
    rcases hj with rfl | ⟨hki, hj⟩
    · exact hLk
    · cases hok : ops[k]? with
      | none =>
        have hlen : (ancs ops).length = ops.length := by
          obtain ⟨t, h1, h2⟩ := ancsGo_acc ops []
          unfold ancs; rw [h1]; simpa using h2
        have : (ancs ops).getD k [] = [] := by
          rw [List.getD_eq_getElem?_getD, List.getElem?_eq_none]; rfl
          rw [hlen]; exact List.getElem?_eq_none_iff.1 hok
        rw [this] at hj; cases hj
      | some p => exact ih k hki p hok hLk j hj

theorem anc_lt {ops : List Oper} (hb : ∀ (i : Nat) o, ops[i]? = some o → ∀ j, j ∈ bindsOf o → j < i) : ∀ (i : Nat) (o : Oper), ops[i]? = some o → ∀ j, j ∈ (ancs ops).getD i [] → j < i := by
  intro i
  induction i using Nat.strongRecOn with
  | _ i ih =>
    intro o ho j hj
    obtain ⟨k, hk, hj⟩ := ancs_get ho hj
    have hki := hb i o ho k hk
    rcases hj with rfl | ⟨_, hj⟩
    · exact hki
    · cases hok : ops[k]? with
      | none =>
        have := (List.getElem?_eq_some_iff.1 ho).1
        have := List.getElem?_eq_none_iff.1 hok
        omega
      | some p => exact Nat.lt_trans (ih k hki p hok j hj) hki


structure Trace (E : Env) (ops : Array Oper) (wr : List Bool) (val : Nat → A) (want : Nat → Bool) (hp : Nat → Heap) (Ts : Nat → List A) : Prop where
  wanted : ∀ (i : Nat) o, ops[i]? = some o → wantA (dsts ops.toList) (Ts i) o.guard = some (want i)
  step : ∀ (i : Nat) o, ops[i]? = some o → Ts (i + 1) = putT (Ts i) o.dst (val i)
  skip : ∀ (i : Nat) o, ops[i]? = some o → want i = false → val i = .und ∧ hp (i + 1) = hp i
  write : ∀ (i : Nat) o, ops[i]? = some o → want i = true → wr.getD i false = true → OpY E (Ts i) (hp i) o (val i) (hp (i + 1))
  still : ∀ (i : Nat) o, ops[i]? = some o → wr.getD i false = false → hp (i + 1) = hp i
  quiet : ∀ (i : Nat) o, ops[i]? = some o → want i = true → wr.getD i false = false → ∀ q, q ≤ ops.size → (∀ w, w < ops.size → wr.getD w false = true → ((ancs ops.toList).getD i []).contains w = true → w < q) →
    (∀ w, w < ops.size → wr.getD w false = true → ((ancs ops.toList).getD w []).contains i = true → q ≤ w) → OpY E (Ts i) (hp q) o (val i) (hp q)

end Go.Eng
