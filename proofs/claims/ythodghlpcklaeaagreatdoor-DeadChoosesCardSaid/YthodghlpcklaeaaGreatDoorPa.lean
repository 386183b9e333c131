/- What the walked functions come to is as the law says: plain Lean. -/
import Derived.Test.YthodghlpcklaeaaGreatDoorEf
import Derived.Test.YthodghlpcklaeaaGreatDoorMg
namespace Go.Eng
open Go.RowKit
set_option linter.unusedVariables false
set_option linter.unusedSimpArgs false
set_option linter.unnecessarySimpa false

structure One where
  (i j r s : Nat)
def UOps (E : Env) (w : One) (hd0 : Heap) : Nat → List Oper → List A → Sta → (List A → Blk → Prop) → Prop
  | _, [], T, b1, Q => ∃ c1 d1, b1 = .done c1 d1 ∧ Q T d1
  | k, o :: l, T, b1, Q => o.guard = none ∧ ∃ v, (k = w.i ∧ b1 = .no ∧ ∃ b, FA E w.r w.s o v b ∧ UOps E w hd0 (k + 1) l (putT T o.dst v) (.made b) Q) ∨
      (k = w.j ∧ w.i ∈ bindsOf o ∧ ∃ c d, b1 = .made c ∧ FS E w.r T o v c d ∧ UOps E w hd0 (k + 1) l (putT T o.dst v) (.done c d) Q) ∨
      (k ≠ w.i ∧ k ≠ w.j ∧ FV E hd0 T o v ∧ UOps E w hd0 (k + 1) l (putT T o.dst v) b1 Q)

section
variable {E : Env} {ops : Array Oper} {W : One} {hd0 : Heap}
def UStep (E : Env) (W : One) (hd0 : Heap) (val : Nat → A) (Ts : Nat → List A) (c1 d1 : Blk) (i : Nat) (o : Oper) : Prop :=
  o.guard = none ∧ Ts (i + 1) = putT (Ts i) o.dst (val i) ∧ ((i = W.i ∧ FA E W.r W.s o (val i) c1) ∨ (i = W.j ∧ W.i ∈ bindsOf o ∧ FS E W.r (Ts i) o (val i) c1 d1) ∨ (i ≠ W.i ∧ i ≠ W.j ∧ FV E hd0 (Ts i) o (val i)))

theorem UOps.trace : ∀ (l : List Oper) (k : Nat) (T : List A) (o1 : Sta) (Q : List A → Blk → Prop), ops.toList.drop k = l → k ≤ ops.size → UOps E W hd0 k l T o1 Q →
    ∃ (val : Nat → A) (Ts : Nat → List A) (c1 d1 : Blk), Ts k = T ∧ Q (Ts ops.size) d1 ∧ (∀ b, o1.fst = some b → c1 = b) ∧ (∀ b, o1.snd = some b → d1 = b) ∧ ∀ (i : Nat) o, k ≤ i → ops[i]? = some o → UStep E W hd0 val Ts c1 d1 i o
  | [], k, T, o1, Q, hl, hk, h => by
    obtain ⟨c1, d1, rfl, hq⟩ := h
    have hk : ops.size ≤ k := by
      have := List.drop_eq_nil_iff.1 hl
      simpa using this
    refine ⟨fun _ => .und, fun _ => T, c1, d1, rfl, hq, ?_, ?_, fun i o hi ho => ?_⟩
    · intro b h; cases h; rfl
    · intro b h; cases h; rfl
    · have := (Array.getElem?_eq_some_iff.1 ho).1
      omega
  | o :: l, k, T, o1, Q, hl, hk, h => by
    have hlt : k < ops.toList.length := by
      rcases Nat.lt_or_ge k ops.toList.length with h' | h'
      · exact h'
      · rw [List.drop_eq_nil_of_le h'] at hl; cases hl
    rw [List.drop_eq_getElem_cons hlt] at hl
    have ho : ops[k]? = some o := by
      have : ops.toList[k] = o := (List.cons.inj hl).1
      rw [← Array.getElem?_toList, List.getElem?_eq_getElem hlt, this]
    have hl' : ops.toList.drop (k + 1) = l := (List.cons.inj hl).2
    have hks : k + 1 ≤ ops.size := (show k < ops.size by simpa using hlt)
    obtain ⟨hg, v, h⟩ := h
    have go : ∀ (p1 : Sta), UOps E W hd0 (k + 1) l (putT T o.dst v) p1 Q → (∀ b, o1.fst = some b → p1.fst = some b) → (∀ b, o1.snd = some b → p1.snd = some b) →
        (∀ c1 d1, (∀ b, p1.fst = some b → c1 = b) → (∀ b, p1.snd = some b → d1 = b) →
          ((k = W.i ∧ FA E W.r W.s o v c1) ∨ (k = W.j ∧ W.i ∈ bindsOf o ∧ FS E W.r T o v c1 d1) ∨ (k ≠ W.i ∧ k ≠ W.j ∧ FV E hd0 T o v))) →
        ∃ (val : Nat → A) (Ts : Nat → List A) (c1 d1 : Blk), Ts k = T ∧ Q (Ts ops.size) d1 ∧ (∀ b, o1.fst = some b → c1 = b) ∧ (∀ b, o1.snd = some b → d1 = b) ∧ ∀ (i : Nat) o, k ≤ i → ops[i]? = some o → UStep E W hd0 val Ts c1 d1 i o := fun p1 hrest hp1 hp1' hst => by
      obtain ⟨val, Ts, c1, d1, t1, t2, t3, t3', t5⟩ := UOps.trace l (k + 1) _ p1 Q hl' hks hrest
      refine ⟨fun i => if i = k then v else val i, fun i => if i = k then T else Ts i, c1, d1, by simp, by simp only [if_neg (show ops.size ≠ k by omega)]; exact t2, fun b hb => t3 b (hp1 b hb), fun b hb => t3' b (hp1' b hb), fun i p hi hp => ?_⟩
      unfold UStep
      by_cases e : i = k
      · subst e
        rw [ho] at hp
        cases hp
        simp only [if_pos, if_neg (show i + 1 ≠ i by omega)]
        exact ⟨hg, t1, hst c1 d1 t3 t3'⟩
      · simp only [if_neg e, if_neg (show i + 1 ≠ k by omega)]
        exact t5 i p (by omega) hp
    rcases h with ⟨e, rfl, b, hm, hrest⟩ | ⟨e, hbi, c, d, rfl, hm, hrest⟩ | ⟨h1, h2, hp, hrest⟩
    · exact go (.made b) hrest (fun b h => by cases h) (fun b h => by cases h) (fun c1 d1 q1 _ => .inl ⟨e, by rw [q1 b rfl]; exact hm⟩)
    · exact go (.done c d) hrest (fun b h => h) (fun b h => by cases h) (fun c1 d1 q1 q1' => .inr (.inl ⟨e, hbi, by rw [q1 c rfl, q1' d rfl]; exact hm⟩))
    · exact go o1 hrest (fun b h => h) (fun b h => h) (fun c1 d1 q1 _ => .inr (.inr ⟨h1, h2, hp⟩))

def fillU (H0 : Heap) (W : One) (c1 d1 : Blk) (L : Array Bool) : Heap := if L.getD W.i false = true then H0.set W.r (some (if L.getD W.j false = true then d1 else c1)) else H0

theorem awp_drawU {T : List A} {H : Heap} {Q : Exit → List A → Heap → Prop} {m id : Nat} (W : One) {t1 : Option TypeId} (hi : W.i ≠ W.j) (h1 : H[W.r]? = some (some (.rows W.s [] t1)))
    (hlt : W.i < ops.size ∧ W.j < ops.size)
    (hrg : rgOk ops.toList (ops.toList.map fun _ => false) (ops.toList.map fun _ => false) = true)
    (hbb : (match ops[W.j]? with | some o => (bindsOf o).contains W.i | none => true) = true)
    (h : UOps E W (H.set W.r none) 0 ops.toList T .no (fun T' c1 => Q .normal T' (H.set W.r (some c1)))) : AWP E (.region id ops true) T H Q m := by
  intro B a w hB hm hs
  obtain ⟨hdf, x, O, rfl, hR, hT⟩ := hs
  have hrr := RgOk.of hrg
  obtain ⟨val, Ts, c1, d1, q1, q2, _, _, q5⟩ := UOps.trace (E := E) (ops := ops) ops.toList 0 T .no _ (by simp) (Nat.zero_le _) h
  have hl1 : W.r < H.length := (List.getElem?_eq_some_iff.1 h1).1
  obtain ⟨hi1, hj1⟩ := hlt
  have hbj1 : ∀ o, ops[W.j]? = some o → W.i ∈ bindsOf o := fun o ho => by rw [ho] at hbb; simpa using hbb
  have hget : ∀ (L : Array Bool) (i k : Nat), L.size = ops.size → i < ops.size → (L.setIfInBounds i true).getD k false = if k = i then true else L.getD k false := fun L i k hL hlt => by
    by_cases e : k = i
    · subst e; simp [hL, hlt]
    · rw [if_neg e, getD_set_ne false (fun h => e h.symm)]
  have hpl : ∀ (L : Array Bool) (k : Nat) b, (H.set W.r none)[k]? = some (some b) → (fillU H W c1 d1 L)[k]? = some (some b) := fun L k b hb => by
    rw [List.getElem?_set] at hb
    by_cases f1 : W.r = k
    · rw [if_pos f1] at hb; split at hb <;> simp at hb
    · rw [if_neg f1] at hb
      unfold fillU
      split <;> simp [List.getElem?_set, f1, hb]
  have hlen : ∀ L : Array Bool, (fillU H W c1 d1 L).length = H.length := fun L => by unfold fillU; split <;> simp
  have tr : TrL E ops val (fillU H W c1 d1) Ts := {
    noguard := fun i o ho => (q5 i o (Nat.zero_le _) ho).1
    step := fun i o ho => (q5 i o (Nat.zero_le _) ho).2.1
    run := fun L i o hL ho hun hb hcl => by
      have hin : i < ops.size := (Array.getElem?_eq_some_iff.1 ho).1
      rcases (q5 i o (Nat.zero_le _) ho).2.2 with ⟨rfl, t, hop, hmk⟩ | ⟨rfl, hbi, hfs⟩ | ⟨hn1, hn3, hfp⟩
      · have hj : L.getD W.j false = false := by
          cases hh : L.getD W.j false with
          | false => rfl
          | true => have := hcl W.j _ hh (Array.getElem?_eq_getElem hj1) W.i (hbj1 _ (Array.getElem?_eq_getElem hj1)); rw [hun] at this; cases this
        have hv : (fillU H W c1 d1 L)[W.r]? = some (some (.rows W.s [] t1)) := by
          unfold fillU
          rw [hun]
          simpa using h1
        have := allocV_y (H := fillU H W c1 d1 L) (T := Ts W.i) hop hv hmk
        have e : fillU H W c1 d1 (L.setIfInBounds W.i true) = (fillU H W c1 d1 L).set W.r (some c1) := by
          unfold fillU
          rw [hget _ _ _ hL hin, hget _ _ _ hL hin, if_pos rfl, if_neg (Ne.symm hi), hun, hj]
          simp
        rw [e]; exact this
      · have hi := hb W.i hbi
        have hv : (fillU H W c1 d1 L)[W.r]? = some (some c1) := by
          unfold fillU
          rw [hun, hi]
          simp [List.getElem?_set, hl1]
        have := hfs _ hv
        have e : fillU H W c1 d1 (L.setIfInBounds W.j true) = (fillU H W c1 d1 L).set W.r (some d1) := by
          unfold fillU
          rw [hget _ _ _ hL hin, hget _ _ _ hL hin, if_pos rfl, hun, hi]
          simp
        rw [e]; exact this
      · have e : fillU H W c1 d1 (L.setIfInBounds i true) = fillU H W c1 d1 L := by
          unfold fillU
          rw [hget _ _ _ hL hin, hget _ _ _ hL hin, if_neg (Ne.symm hn1), if_neg (Ne.symm hn3)]
        rw [e]
        rcases hfp with ⟨f1, f2, f3⟩ | f1
        · exact (Yld.y f1).frame (leH_of (by rw [hlen]; simp) (hpl L)) f2 f3
        · exact f1 _ }
  refine wp_region_any E.hmix ?_
  let y : Ctx := { w := x.w.drew, F := x.F, μ := x.μ, N := x.N, L := x.L }
  have hxy : x.Le y := ⟨fun k hk => ⟨hk, rfl⟩, Nat.le_refl _, Nat.le_refl _, fun id _ s m hm => ⟨m, hm, Nat.le_refl _, fun _ => ⟨rfl, fun _ _ _ => rfl⟩⟩⟩
  have hRy : Rel B y O H := ⟨hR.hL, hR.hN, hR.le.trans hxy, hR.os, hR.tape, hR.output, hR.keep, hR.own, hR.fr, hR.disj, hR.nof, fun id b hb => (hR.blk id b hb).mono hxy rfl (fun _ h => h) (fun _ _ => rfl)⟩
  have hTy := hT.mono hxy
  have hrep : ∀ i, (Array.replicate ops.size false).getD i false = false := fun i => by
    rw [Array.getD_eq_getD_getElem?, Array.getElem?_replicate]
    split <;> rfl
  have h00 : fillU H W c1 d1 (Array.replicate ops.size false) = H := by unfold fillU; rw [hrep]; simp
  have hfin : ∀ L : Array Bool, L.size = ops.size → (∀ i, i < ops.size → L.getD i false = true) → fillU H W c1 d1 L = H.set W.r (some d1) := fun L hL hall => by
    unfold fillU; rw [hall W.i hi1, hall W.j hj1]; simp
  refine tr.any hrr hfin hB (fun a' w' hs' => ⟨Ts ops.size, _, q2, hs'⟩) ops.size (Array.replicate ops.size false) a y O (by simp) ?_ (fun i o hi => by rw [hrep] at hi; cases hi) (by rw [h00]; exact hRy) hdf (by rw [q1]; exact hTy.1) (fun i o hi => by rw [hrep] at hi; cases hi) (fun t ht hn => ?_)
  · have : ((List.range ops.size).filter fun i => !(Array.replicate ops.size false).getD i true) = List.range ops.size := by
      rw [List.filter_eq_self]
      intro i hi
      rw [List.mem_range] at hi
      simp [hi]
    rw [this, List.length_range]
  · rw [q1]
    exact hTy.get t
theorem gu_p {k : Nat} {l : List Oper} {o : Oper} {T : List A} {b1 : Sta} {Q : List A → Blk → Prop} {v : A} (ha : aop E T hd0 o.op = some (v, hd0)) (hg : o.guard = none) (hk : k ≠ W.i ∧ k ≠ W.j) (hv : visA hd0 v = true) (hh : visH hd0 hd0 = true)
    (h : UOps E W hd0 (k + 1) l (putT T o.dst v) b1 Q) : UOps E W hd0 k (o :: l) T b1 Q := ⟨hg, v, .inr (.inr ⟨hk.1, hk.2, .inl ⟨ha, hv, hh⟩, h⟩)⟩
theorem gu_c {k : Nat} {l : List Oper} {o : Oper} {T : List A} {b1 : Sta} {Q : List A → Blk → Prop} {f : FuncId} {al : List A} {rl : A} {fo : Operand} {as1 : Array Operand} (ho : opIs o fo as1) (hfo : ev E T fo = .c (.clo (.func f) [])) (hargs : as1.toList.map (ev E T) = al)
    (hg : o.guard = none) (hk : k ≠ W.i ∧ k ≠ W.j) (hf : AFn E f al [] rl []) (hr : ∀ g, renA g rl = rl) (ha : ∀ g, renAs g al = al) (hoA : okAs 0 al = true)
    (h : UOps E W hd0 (k + 1) l (putT T o.dst rl) b1 Q) : UOps E W hd0 k (o :: l) T b1 Q :=
  ⟨hg, rl, .inr (.inr ⟨hk.1, hk.2, .inr (fun H2 => by
    have := callY (E := E) (T := T) (H := H2) [] hf ho hfo (caps := []) (by rw [ha]; simpa using hargs) (by simp) (by simp) rfl (by simp) hoA rfl
    rw [hr] at this
    simpa [mrg] using this), h⟩)⟩
theorem gu_1 {k : Nat} {l : List Oper} {o : Oper} {T : List A} {Q : List A → Blk → Prop} {v : A} {b : Blk} {t : TypeId} (ho : o.op = .alloc t) (hk : k = W.i) (hm : aAllocV E W.r W.s t = some (v, b)) (hg : o.guard = none)
    (h : UOps E W hd0 (k + 1) l (putT T o.dst v) (.made b) Q) : UOps E W hd0 k (o :: l) T .no Q := ⟨hg, v, .inl ⟨hk, rfl, b, ⟨t, ho, hm⟩, h⟩⟩
theorem toDs_map (H : Heap) : ∀ ds : List D, toDs H (ds.map .d) = some (ds, H)
  | [] => by simp [toDs]
  | d :: ds => by simp [toDs, toD, toDs_map H ds]
theorem splC_full {α : Type} : ∀ {ns l : List α}, ns.length = l.length → splC 0 ns l = some ns
  | [], [], _ => rfl
  | n :: ns, _ :: l, h => by rw [splC, splC_full (ns := ns) (l := l) (by simpa using h)]
  | [], _ :: _, h => by simp at h
  | _ :: _, [], h => by simp at h
theorem fs_n {T : List A} {o : Oper} {r n : Nat} {t : TypeId} {p y : Operand} {xs ds : List D} {ty : Option TypeId} (ho : o.op = .store t p y) (hp : ev E T p = .c (.ptr r 0 0 1)) (hy : ev E T y = .agg (ds.map .d)) (hs : E.size t = some n) (hl : ds.length = n) (hx : xs.length = n) :
    FS E r T o .und (.rows n [xs] ty) (.rows n [ds] ty) := fun H2 h2 => by
  refine Yld.y ?_
  rw [ho]
  simp only [aop]
  unfold aStore put'
  rw [hp, hy, hs]
  have hg : hG H2 r = some (.rows n [xs] ty) := by rw [hG_eq, h2]; rfl
  simp only [cellsOf, List.length_map, hl, if_true, hg, toDs_map]
  simp [hg, rowsAt, splC_full (ns := ds) (l := xs) (by omega), hP_eq]
theorem gu_s {k n : Nat} {l : List Oper} {o : Oper} {T : List A} {Q : List A → Blk → Prop} {t : TypeId} {p y : Operand} {xs ds : List D} {ty : Option TypeId} (ho : o.op = .store t p y) (hk : k = W.j) (hbi : W.i ∈ bindsOf o) (hp : ev E T p = .c (.ptr W.r 0 0 1)) (hy : ev E T y = .agg (ds.map .d)) (hs : E.size t = some n) (hl : ds.length = n) (hx : xs.length = n) (hg : o.guard = none)
    (h : UOps E W hd0 (k + 1) l (putT T o.dst .und) (.done (.rows n [xs] ty) (.rows n [ds] ty)) Q) : UOps E W hd0 k (o :: l) T (.made (.rows n [xs] ty)) Q :=
  ⟨hg, .und, .inr (.inl ⟨hk, hbi, _, _, rfl, fs_n ho hp hy hs hl hx, h⟩)⟩
theorem gu_e {k : Nat} {T : List A} {c1 d1 : Blk} {Q : List A → Blk → Prop} (h : Q T d1) : UOps E W hd0 k [] T (.done c1 d1) Q := ⟨c1, d1, rfl, h⟩
end
end Go.Eng
open Go Go.Proofs
namespace Go.Eng
set_option linter.unusedSimpArgs false
set_option linter.unusedVariables false
set_option maxRecDepth 10000
set_option maxHeartbeats 16000000
theorem stC_map (l : List Int) : (l.map dI).map C.d = stC l := by rw [List.map_map]; rfl
theorem zRow_rep : ∀ n : Nat, zRow (List.replicate n (.int .i64 0)) = some ((List.replicate n 0).map dI)
  | 0 => rfl
  | n + 1 => by rw [List.replicate_succ, zRow_i, zRow_rep n]; rfl
theorem alloc61 (r : Nat) : aAllocV env r 105 61 = some (.c (.ptr r 0 0 1), .rows 105 [g00.map dI]) := by
  unfold aAllocV
  rw [t61inf]
  simp only [if_true]
  rw [show (Value.agg ⟨List.replicate 105 (.int .i64 0)⟩).cells.toList = List.replicate 105 (.int .i64 0) from rfl, zRow_rep]
  rfl
attribute [go_sem] stC_map
theorem lawCh_ok (w : B) (s : List Int) (k o : Int) (hl : s.length = 104) : AFn env 4 [w.a, sA s, atA k o] [] (aB true) [] := by
  have h1 := cho_len w s k o hl
  have hg0 := g00_len
  refine afn_body Tryz.func4 rfl (by decide) ?_
  simp only [Tryz.ntmps4, Tryz.results4, List.length_cons, List.length_nil, List.cons_append, List.nil_append, Nat.reduceAdd, Nat.reduceSub, List.replicate]
  repeat' first
  | ((with_reducible refine awp_seqQ ?_); intro _ _)
  | ((with_reducible refine awp_region ?_); refine zS ?_)
  | ((with_reducible refine AWP_c ?_); refine zcdB ?_ ?_ <;> intro hb <;> first | contradiction | (try refine zH hb ?_))
  | ((with_reducible refine awp_skip ?_); try refine zS ?_)
  | ((with_reducible refine CallK_id ?_); refine zcF ?_; refine ⟨_, by first | exact skips_ok | exact choose_ok w s k o (nl6 ‹_›) hl | fail, ?_⟩; refine ⟨fun _ => by (first | rfl | simp only [go_sem]; done), fun _ => by (first | rfl | simp only [go_sem]; done), by (first | rfl | (simp [okAs, okA, okCs, okC, okC_st, go_sem]; done)), ?_⟩; try refine zS ?_)
  | ((with_reducible refine CallK_id ?_); refine zcT [3] ?_; refine ⟨_, _, by first | exact large_ok w 600 1 (by decide) (by decide) (by decide) (by decide) | fail, ?_⟩; try refine zS ?_)
  | ((with_reducible refine awp_ret ?_); refine q_step (by assumption) ?_)
  | with_reducible refine fin_r ?_
  | ((with_reducible refine q_step (by assumption) ?_); try refine zS ?_)
  · rfl
  have hz := nl6 ‹(largeB w 600 1).1 = false›
  refine awp_wk (wk_vnew (s := 105) none (by decide)) ?_
  refine zT ?_
  refine awp_drawU ⟨6, 7, 5, 105⟩ (by decide) rfl (by decide) rfl rfl ?_
  simp only [List.set_cons_succ, List.set_cons_zero]
  refine gu_p (by simp (disch := omega) only [go_sem, Bool.not_not, List.mem_singleton, forall_eq, ↓reduceIte, if_pos, rowsAt_map, wrap64, wrapu8, List.getElem?_cons_zero, List.getElem?_cons_succ, Int.reduceToNat, Nat.reduceAdd, Nat.reduceBEq, Bool.or_false, Bool.false_or, Bool.true_or, Nat.reduceSub, Nat.reduceMul, Int.reduceAdd, Int.reduceEq, Int.reduceLT, Int.reduceLE, Int.reduceNeg, Nat.reduceLT, Nat.reduceLeDiff, Nat.reduceEqDiff]; rfl) rfl (by decide) (by simp [go_sem, visA, visCs, visC]) (by simp [go_sem, visH, visCs, visC]) ?_
  refine zT ?_
  refine gu_c ⟨_, rfl⟩ rfl (by simp only [go_sem, Bool.not_not, List.mem_singleton, forall_eq, ↓reduceIte, if_pos, rowsAt_map, wrap64, wrapu8, List.getElem?_cons_zero, List.getElem?_cons_succ, Int.reduceToNat, Nat.reduceAdd, Nat.reduceBEq, Bool.or_false, Bool.false_or, Bool.true_or, Nat.reduceSub, Nat.reduceMul, Int.reduceAdd, Int.reduceEq, Int.reduceLT, Int.reduceLE, Int.reduceNeg, Nat.reduceLT, Nat.reduceLeDiff, Nat.reduceEqDiff]) rfl (by decide) (ref_ok w (by omega)) (fun _ => by (first | rfl | simp only [go_sem])) (fun _ => by (first | rfl | simp only [go_sem])) (by first | rfl | simp [okAs, okA, okCs, okC, okC_st, go_sem]) ?_
  refine zT ?_
  refine gu_p (by simp (disch := omega) only [go_sem, Bool.not_not, List.mem_singleton, forall_eq, ↓reduceIte, if_pos, rowsAt_map, wrap64, wrapu8, List.getElem?_cons_zero, List.getElem?_cons_succ, Int.reduceToNat, Nat.reduceAdd, Nat.reduceBEq, Bool.or_false, Bool.false_or, Bool.true_or, Nat.reduceSub, Nat.reduceMul, Int.reduceAdd, Int.reduceEq, Int.reduceLT, Int.reduceLE, Int.reduceNeg, Nat.reduceLT, Nat.reduceLeDiff, Nat.reduceEqDiff]; rfl) rfl (by decide) (by simp [go_sem, visA, visCs, visC]) (by simp [go_sem, visH, visCs, visC]) ?_
  refine zT ?_
  refine gu_c ⟨_, rfl⟩ rfl (by simp only [go_sem, Bool.not_not, List.mem_singleton, forall_eq, ↓reduceIte, if_pos, rowsAt_map, wrap64, wrapu8, List.getElem?_cons_zero, List.getElem?_cons_succ, Int.reduceToNat, Nat.reduceAdd, Nat.reduceBEq, Bool.or_false, Bool.false_or, Bool.true_or, Nat.reduceSub, Nat.reduceMul, Int.reduceAdd, Int.reduceEq, Int.reduceLT, Int.reduceLE, Int.reduceNeg, Nat.reduceLT, Nat.reduceLeDiff, Nat.reduceEqDiff]) rfl (by decide) (state_ok s hl) (fun _ => by (first | rfl | simp only [go_sem])) (fun _ => by (first | rfl | simp only [go_sem])) (by first | rfl | simp [okAs, okA, okCs, okC, okC_st, go_sem]) ?_
  refine zT ?_
  refine gu_p (by simp (disch := omega) only [go_sem, Bool.not_not, List.mem_singleton, forall_eq, ↓reduceIte, if_pos, rowsAt_map, wrap64, wrapu8, List.getElem?_cons_zero, List.getElem?_cons_succ, Int.reduceToNat, Nat.reduceAdd, Nat.reduceBEq, Bool.or_false, Bool.false_or, Bool.true_or, Nat.reduceSub, Nat.reduceMul, Int.reduceAdd, Int.reduceEq, Int.reduceLT, Int.reduceLE, Int.reduceNeg, Nat.reduceLT, Nat.reduceLeDiff, Nat.reduceEqDiff]; rfl) rfl (by decide) (by simp [go_sem, visA, visCs, visC]) (by simp [go_sem, visH, visCs, visC]) ?_
  refine zT ?_
  refine gu_c ⟨_, rfl⟩ rfl (by simp only [go_sem, Bool.not_not, List.mem_singleton, forall_eq, ↓reduceIte, if_pos, rowsAt_map, wrap64, wrapu8, List.getElem?_cons_zero, List.getElem?_cons_succ, Int.reduceToNat, Nat.reduceAdd, Nat.reduceBEq, Bool.or_false, Bool.false_or, Bool.true_or, Nat.reduceSub, Nat.reduceMul, Int.reduceAdd, Int.reduceEq, Int.reduceLT, Int.reduceLE, Int.reduceNeg, Nat.reduceLT, Nat.reduceLeDiff, Nat.reduceEqDiff]) rfl (by decide) (rChoose_ok w s k o hz hl) (fun _ => by (first | rfl | simp only [go_sem])) (fun _ => by (first | rfl | simp only [go_sem])) (by first | rfl | simp [okAs, okA, okCs, okC, okC_st, go_sem]) ?_
  refine zT ?_
  refine gu_1 rfl rfl (alloc61 5) rfl ?_
  refine zT ?_
  refine gu_s (ds := ((choS w s k o).1 ++ [(choS w s k o).2]).map dI) rfl rfl (by decide) rfl (by show A.agg (stC _) = _; rw [stC_map]) (by simp only [go_sem, Bool.not_not, List.mem_singleton, forall_eq, ↓reduceIte, if_pos, rowsAt_map, wrap64, wrapu8, List.getElem?_cons_zero, List.getElem?_cons_succ, Int.reduceToNat, Nat.reduceAdd, Nat.reduceBEq, Bool.or_false, Bool.false_or, Bool.true_or, Nat.reduceSub, Nat.reduceMul, Int.reduceAdd, Int.reduceEq, Int.reduceLT, Int.reduceLE, Int.reduceNeg, Nat.reduceLT, Nat.reduceLeDiff, Nat.reduceEqDiff]) (by rw [List.length_map, List.length_append, h1]; rfl) (by rw [List.length_map, hg0]) rfl ?_
  refine zT ?_
  refine gu_e ?_
  repeat' first
  | ((with_reducible refine awp_seqQ ?_); intro _ _)
  | ((with_reducible refine awp_drawnA ?_ ?_); rfl; refine zS ?_)
  | ((with_reducible refine DStep_id ?_); refine zdP ?_; refine ⟨_, by first | exact skips_ok | exact state_ok _ (cho_len w s k o hl) | fail, ?_⟩; refine ⟨fun _ => by (first | rfl | simp only [go_sem]; done), fun _ => by (first | rfl | simp only [go_sem]; done), by (first | rfl | (simp [okAs, okA, okCs, okC, okC_st, go_sem]; done)), (fun h => by first | (cases h; done) | (cases h; simp [go_sem, visA, visCs, visC]; done)), ?_⟩; try refine zS ?_)
  | ((with_reducible refine awp_ret ?_); refine q_step (by assumption) ?_)
  | with_reducible refine fin_r ?_
  | ((with_reducible refine q_step (by assumption) ?_); try refine zS ?_)
  all_goals first | rfl | (exfalso; simp_all; done) | trace_state
end Go.Eng
open Go Go.Proofs
namespace Go.Eng
set_option linter.unusedSimpArgs false
set_option linter.unusedVariables false
set_option maxRecDepth 100000
set_option maxHeartbeats 16000000
theorem lawF_ok (w : B) (s : List Int) (k : Int) (hl : s.length = 104) : AFn env 5 [w.a, sA s, aI k] [] (aB true) [] := by
  have h1 := fin_len w s k hl
  have hg0 := g00_len
  refine afn_body Tryz.func5 rfl (by decide) ?_
  simp only [Tryz.ntmps5, Tryz.results5, List.length_cons, List.length_nil, List.cons_append, List.nil_append, Nat.reduceAdd, Nat.reduceSub, List.replicate]
  repeat' first
  | ((with_reducible refine awp_seqQ ?_); intro _ _)
  | ((with_reducible refine awp_region ?_); refine zS ?_)
  | ((with_reducible refine AWP_c ?_); refine zcdB ?_ ?_ <;> intro hb <;> first | contradiction | (try refine zH hb ?_))
  | ((with_reducible refine awp_skip ?_); try refine zS ?_)
  | ((with_reducible refine CallK_id ?_); refine zcF ?_; refine ⟨_, by first | exact skips_ok | exact finish_ok w s k (nl6 ‹_›) hl | exact ref_ok w (by have := nl6 ‹(largeB w 600 1).1 = false›; omega) | fail, ?_⟩; refine ⟨fun _ => by (first | rfl | simp only [go_sem]; done), fun _ => by (first | rfl | simp only [go_sem]; done), by (first | rfl | (simp [okAs, okA, okCs, okC, okC_st, go_sem]; done)), ?_⟩; try refine zS ?_)
  | ((with_reducible refine CallK_id ?_); refine zcT [2] ?_; refine ⟨_, _, by first | exact large_ok w 600 1 (by decide) (by decide) (by decide) (by decide) | fail, ?_⟩; try refine zS ?_)
  | ((with_reducible refine awp_ret ?_); refine q_step (by assumption) ?_)
  | with_reducible refine fin_r ?_
  | ((with_reducible refine q_step (by assumption) ?_); try refine zS ?_)
  · rfl
  have hz := nl6 ‹(largeB w 600 1).1 = false›
  refine awp_wk (wk_vnew (s := 105) none (by decide)) ?_
  refine zT ?_
  refine awp_drawU ⟨5, 6, 5, 105⟩ (by decide) rfl (by decide) rfl rfl ?_
  simp only [List.set_cons_succ, List.set_cons_zero]
  refine gu_p (by simp (disch := omega) only [go_sem, Bool.not_not, List.mem_singleton, forall_eq, ↓reduceIte, if_pos, rowsAt_map, wrap64, wrapu8, List.getElem?_cons_zero, List.getElem?_cons_succ, Int.reduceToNat, Nat.reduceAdd, Nat.reduceBEq, Bool.or_false, Bool.false_or, Bool.true_or, Nat.reduceSub, Nat.reduceMul, Int.reduceAdd, Int.reduceEq, Int.reduceLT, Int.reduceLE, Int.reduceNeg, Nat.reduceLT, Nat.reduceLeDiff, Nat.reduceEqDiff]; rfl) rfl (by decide) (by simp [go_sem, visA, visCs, visC]) (by simp [go_sem, visH, visCs, visC]) ?_
  refine zT ?_
  refine gu_p (by simp (disch := omega) only [go_sem, Bool.not_not, List.mem_singleton, forall_eq, ↓reduceIte, if_pos, rowsAt_map, wrap64, wrapu8, List.getElem?_cons_zero, List.getElem?_cons_succ, Int.reduceToNat, Nat.reduceAdd, Nat.reduceBEq, Bool.or_false, Bool.false_or, Bool.true_or, Nat.reduceSub, Nat.reduceMul, Int.reduceAdd, Int.reduceEq, Int.reduceLT, Int.reduceLE, Int.reduceNeg, Nat.reduceLT, Nat.reduceLeDiff, Nat.reduceEqDiff]; rfl) rfl (by decide) (by simp [go_sem, visA, visCs, visC]) (by simp [go_sem, visH, visCs, visC]) ?_
  refine zT ?_
  refine gu_c ⟨_, rfl⟩ rfl (by simp only [go_sem, Bool.not_not, List.mem_singleton, forall_eq, ↓reduceIte, if_pos, rowsAt_map, wrap64, wrapu8, List.getElem?_cons_zero, List.getElem?_cons_succ, Int.reduceToNat, Nat.reduceAdd, Nat.reduceBEq, Bool.or_false, Bool.false_or, Bool.true_or, Nat.reduceSub, Nat.reduceMul, Int.reduceAdd, Int.reduceEq, Int.reduceLT, Int.reduceLE, Int.reduceNeg, Nat.reduceLT, Nat.reduceLeDiff, Nat.reduceEqDiff]) rfl (by decide) (state_ok s hl) (fun _ => by (first | rfl | simp only [go_sem])) (fun _ => by (first | rfl | simp only [go_sem])) (by first | rfl | simp [okAs, okA, okCs, okC, okC_st, go_sem]) ?_
  refine zT ?_
  refine gu_p (by simp (disch := omega) only [go_sem, Bool.not_not, List.mem_singleton, forall_eq, ↓reduceIte, if_pos, rowsAt_map, wrap64, wrapu8, List.getElem?_cons_zero, List.getElem?_cons_succ, Int.reduceToNat, Nat.reduceAdd, Nat.reduceBEq, Bool.or_false, Bool.false_or, Bool.true_or, Nat.reduceSub, Nat.reduceMul, Int.reduceAdd, Int.reduceEq, Int.reduceLT, Int.reduceLE, Int.reduceNeg, Nat.reduceLT, Nat.reduceLeDiff, Nat.reduceEqDiff]; rfl) rfl (by decide) (by simp [go_sem, visA, visCs, visC]) (by simp [go_sem, visH, visCs, visC]) ?_
  refine zT ?_
  refine gu_c ⟨_, rfl⟩ rfl (by simp only [go_sem, Bool.not_not, List.mem_singleton, forall_eq, ↓reduceIte, if_pos, rowsAt_map, wrap64, wrapu8, List.getElem?_cons_zero, List.getElem?_cons_succ, Int.reduceToNat, Nat.reduceAdd, Nat.reduceBEq, Bool.or_false, Bool.false_or, Bool.true_or, Nat.reduceSub, Nat.reduceMul, Int.reduceAdd, Int.reduceEq, Int.reduceLT, Int.reduceLE, Int.reduceNeg, Nat.reduceLT, Nat.reduceLeDiff, Nat.reduceEqDiff]) rfl (by decide) (rFinish_ok w s k hz hl) (fun _ => by (first | rfl | simp only [go_sem])) (fun _ => by (first | rfl | simp only [go_sem])) (by first | rfl | simp [okAs, okA, okCs, okC, okC_st, go_sem]) ?_
  refine zT ?_
  refine gu_1 rfl rfl (alloc61 5) rfl ?_
  refine zT ?_
  refine gu_s (ds := ((finS w s k).1 ++ [(finS w s k).2]).map dI) rfl rfl (by decide) rfl (by show A.agg (stC _) = _; rw [stC_map]) (by simp only [go_sem, Bool.not_not, List.mem_singleton, forall_eq, ↓reduceIte, if_pos, rowsAt_map, wrap64, wrapu8, List.getElem?_cons_zero, List.getElem?_cons_succ, Int.reduceToNat, Nat.reduceAdd, Nat.reduceBEq, Bool.or_false, Bool.false_or, Bool.true_or, Nat.reduceSub, Nat.reduceMul, Int.reduceAdd, Int.reduceEq, Int.reduceLT, Int.reduceLE, Int.reduceNeg, Nat.reduceLT, Nat.reduceLeDiff, Nat.reduceEqDiff]) (by rw [List.length_map, List.length_append, h1]; rfl) (by rw [List.length_map, hg0]) rfl ?_
  refine zT ?_
  refine gu_e ?_
  repeat' first
  | ((with_reducible refine awp_seqQ ?_); intro _ _)
  | ((with_reducible refine awp_drawnA ?_ ?_); rfl; refine zS ?_)
  | ((with_reducible refine DStep_id ?_); refine zdP ?_; refine ⟨_, by first | exact skips_ok | exact state_ok s hl | exact state_ok _ (fin_len w s k hl) | exact check19_ok w s (nl6 ‹_›) hl | exact rCheck19_ok w s (nl6 ‹_›) hl | exact over_ok w s (nl6 ‹_›) hl | exact rOver_ok w s (nl6 ‹_›) hl | fail, ?_⟩; refine ⟨fun _ => by (first | rfl | simp only [go_sem]; done), fun _ => by (first | rfl | simp only [go_sem]; done), by (first | rfl | (simp [okAs, okA, okCs, okC, okC_st, go_sem]; done)), (fun h => by first | (cases h; done) | (cases h; simp [go_sem, visA, visCs, visC]; done)), ?_⟩; try refine zS ?_)
  | ((with_reducible refine awp_ret ?_); refine q_step (by assumption) ?_)
  | with_reducible refine fin_r ?_
  | ((with_reducible refine q_step (by assumption) ?_); try refine zS ?_)
  all_goals first | rfl | (exfalso; simp_all; done) | trace_state
end Go.Eng
open Go Go.Proofs Go.RowKit
namespace Go.Eng
set_option linter.unusedSimpArgs false
set_option linter.unusedVariables false
set_option maxRecDepth 100000
def intOf : Value → Int | .int _ a => a | _ => 0
section
variable {H : Type} {enc : TypeId × Value → H} {P : Program} {W : World} {F : Nat → Prop} {base : Nat} {spare : Nat → Bool} {held : Bool} {n m : Nat} {t e : TypeId}
theorem opD_ints (ht : P.underlying t = some (.array m e)) (he : P.underlying e = some (.int .i64)) (hc : P.cellsOf e = 1) (hC : P.cellsOf t = m) : OpD enc P W F base spare held t (fun l : List Int => l.map dI) (fun l => l.length = m) n := by
  intro cs x hx hw
  obtain ⟨xs, m', rfl, rfl, hl, hxl, hel⟩ := DataW.trod_array ht hx
  have hcs : ∀ i, i < m → ∃ a, cs[i]? = some (.int .i64 a) := fun i hi => by
    have h := hel i hi
    obtain ⟨y, hy⟩ : ∃ y, xs[i]? = some y := ⟨xs[i]'(by omega), List.getElem?_eq_getElem _⟩
    rw [hc, Nat.mul_one, hy] at h
    obtain ⟨a, h1, _, _⟩ := DataW.trod_int he h
    have := congrArg (fun l => l[0]?) h1
    exact ⟨a, by simpa [List.getElem?_take, List.getElem?_drop] using this⟩
  refine ⟨cs.map intOf, ⟨by simp, fun i d hd => ?_⟩, by simpa [hC] using hl⟩
  rw [List.getElem?_map, List.getElem?_map] at hd
  by_cases hi : i < m
  · obtain ⟨a, ha⟩ := hcs i hi
    rw [ha] at hd
    cases hd
    exact ⟨_, ha, .sc _ rfl⟩
  · rw [List.getElem?_eq_none (by omega)] at hd
    cases hd
end
section
variable {H : Type} {enc : TypeId × Value → H} {W : World} {F : Nat → Prop} {base : Nat} {spare : Nat → Bool} {held : Bool}
theorem opD_St (n : Nat) : OpD enc Tryz.prog W F base spare held 41 (fun b : List Int × List Int × Unit => b.1.map dI ++ (b.2.1.map dI ++ [])) (fun b => b.1.length = 40 ∧ b.2.1.length = 64 ∧ True) n :=
  opD_struct (β := List Int × List Int × Unit) (f := fun b => b) (g := fun b => b) Tryz.underlying41 (by kernel_rfl) (fun a => rfl) (fun m hm => opDF_cons (s := 40) rfl (by kernel_rfl) (opD_ints (m := 40) Tryz.underlying38 Tryz.underlying3 (by kernel_rfl) (by kernel_rfl)) (opDF_cons (s := 64) rfl (by kernel_rfl) (opD_ints (m := 64) Tryz.underlying39 Tryz.underlying3 (by kernel_rfl) (by kernel_rfl)) opDF_nil))
theorem opD_At (n : Nat) : OpD enc Tryz.prog W F base spare held 58 (fun b : Int × Int × Unit => [dI b.1] ++ ([dI b.2.1] ++ [])) (fun _ => True) n :=
  opD_imp (opD_struct (β := Int × Int × Unit) (f := fun b => b) (g := fun b => b) Tryz.underlying58 (by kernel_rfl) (fun a => rfl) (fun m hm => opDF_cons (s := 1) rfl (by kernel_rfl) (opD_int Tryz.underlying3) (opDF_cons (s := 1) rfl (by kernel_rfl) (opD_int Tryz.underlying3) opDF_nil))) (fun _ => rfl) (fun _ _ => trivial)
end
theorem va_St {W : World} {b : List Int × List Int × Unit} {cs : Array Value} (h : RdL W (B0 W).x.F (b.1.map dI ++ (b.2.1.map dI ++ [])) cs.toList) : VA (B0 W).x (sA (b.1 ++ b.2.1)) (.agg cs) := by
  have := rd_agg h
  rwa [List.append_nil, ← List.map_append, stC_map] at this
theorem va_At {W : World} {b : Int × Int × Unit} {cs : Array Value} (h : RdL W (B0 W).x.F ([dI b.1] ++ ([dI b.2.1] ++ [])) cs.toList) : VA (B0 W).x (atA b.1 b.2.1) (.agg cs) := rd_agg h
end Go.Eng
