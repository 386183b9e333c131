/- The words of a machine on plain data, and that the program does what this machine does. -/
import Derived.Test.YtmamiagddgldkaaDoorEf
import Derived.Lib.Builder
namespace Go.Eng
open Go.RowKit
set_option linter.unusedVariables false
set_option linter.unusedSimpArgs false
set_option linter.unnecessarySimpa false

structure One where
  (i j r s : Nat)
def UOps (E : Env) (w : One) (hd0 : Heap) : Nat → List Oper → List A → Sta → (List A → Blk → Prop) → Prop
  | _, [], T, b1, Q => ∃ c1 d1, b1 = .done c1 d1 ∧ Q T d1
  | k, o :: l, T, b1, Q => o.guard = none ∧ ∃ v, (k = w.i ∧ b1 = .no ∧ ∃ b, FA E w.r w.s o v b ∧ UOps E w hd0 (k + 1) l (putT T o.dst v) (.made b) Q) ∨
      (k = w.j ∧ w.i ∈ bindsOf o ∧ ∃ c d, b1 = .made c ∧ FS E w.r T o v c d ∧ UOps E w hd0 (k + 1) l (putT T o.dst v) (.done c d) Q) ∨
      (k ≠ w.i ∧ k ≠ w.j ∧ FV E hd0 T o v ∧ UOps E w hd0 (k + 1) l (putT T o.dst v) b1 Q)

section
variable {E : Env} {ops : Array Oper} {W : One} {hd0 : Heap}
def UStep (E : Env) (W : One) (hd0 : Heap) (val : Nat → A) (Ts : Nat → List A) (c1 d1 : Blk) (i : Nat) (o : Oper) : Prop :=
  o.guard = none ∧ Ts (i + 1) = putT (Ts i) o.dst (val i) ∧ ((i = W.i ∧ FA E W.r W.s o (val i) c1) ∨ (i = W.j ∧ W.i ∈ bindsOf o ∧ FS E W.r (Ts i) o (val i) c1 d1) ∨ (i ≠ W.i ∧ i ≠ W.j ∧ FV E hd0 (Ts i) o (val i)))

theorem UOps.trace : ∀ (l : List Oper) (k : Nat) (T : List A) (o1 : Sta) (Q : List A → Blk → Prop), ops.toList.drop k = l → k ≤ ops.size → UOps E W hd0 k l T o1 Q →
    ∃ (val : Nat → A) (Ts : Nat → List A) (c1 d1 : Blk), Ts k = T ∧ Q (Ts ops.size) d1 ∧ (∀ b, o1.fst = some b → c1 = b) ∧ (∀ b, o1.snd = some b → d1 = b) ∧ ∀ (i : Nat) o, k ≤ i → ops[i]? = some o → UStep E W hd0 val Ts c1 d1 i o
  | [], k, T, o1, Q, hl, hk, h => by
    obtain ⟨c1, d1, rfl, hq⟩ := h
    have hk : ops.size ≤ k := by
      have := List.drop_eq_nil_iff.1 hl
      simpa using this
    refine ⟨fun _ => .und, fun _ => T, c1, d1, rfl, hq, ?_, ?_, fun i o hi ho => ?_⟩
    · intro b h; cases h; rfl
    · intro b h; cases h; rfl
    · have := (Array.getElem?_eq_some_iff.1 ho).1
      omega
  | o :: l, k, T, o1, Q, hl, hk, h => by
    have hlt : k < ops.toList.length := by
      rcases Nat.lt_or_ge k ops.toList.length with h' | h'
      · exact h'
      · rw [List.drop_eq_nil_of_le h'] at hl; cases hl
    rw [List.drop_eq_getElem_cons hlt] at hl
    have ho : ops[k]? = some o := by
      have : ops.toList[k] = o := (List.cons.inj hl).1
      rw [← Array.getElem?_toList, List.getElem?_eq_getElem hlt, this]
    have hl' : ops.toList.drop (k + 1) = l := (List.cons.inj hl).2
    have hks : k + 1 ≤ ops.size := (show k < ops.size by simpa using hlt)
    obtain ⟨hg, v, h⟩ := h
    have go : ∀ (p1 : Sta), UOps E W hd0 (k + 1) l (putT T o.dst v) p1 Q → (∀ b, o1.fst = some b → p1.fst = some b) → (∀ b, o1.snd = some b → p1.snd = some b) →
        (∀ c1 d1, (∀ b, p1.fst = some b → c1 = b) → (∀ b, p1.snd = some b → d1 = b) →
          ((k = W.i ∧ FA E W.r W.s o v c1) ∨ (k = W.j ∧ W.i ∈ bindsOf o ∧ FS E W.r T o v c1 d1) ∨ (k ≠ W.i ∧ k ≠ W.j ∧ FV E hd0 T o v))) →
        ∃ (val : Nat → A) (Ts : Nat → List A) (c1 d1 : Blk), Ts k = T ∧ Q (Ts ops.size) d1 ∧ (∀ b, o1.fst = some b → c1 = b) ∧ (∀ b, o1.snd = some b → d1 = b) ∧ ∀ (i : Nat) o, k ≤ i → ops[i]? = some o → UStep E W hd0 val Ts c1 d1 i o := fun p1 hrest hp1 hp1' hst => by
      obtain ⟨val, Ts, c1, d1, t1, t2, t3, t3', t5⟩ := UOps.trace l (k + 1) _ p1 Q hl' hks hrest
      refine ⟨fun i => if i = k then v else val i, fun i => if i = k then T else Ts i, c1, d1, by simp, by simp only [if_neg (show ops.size ≠ k by omega)]; exact t2, fun b hb => t3 b (hp1 b hb), fun b hb => t3' b (hp1' b hb), fun i p hi hp => ?_⟩
      unfold UStep
      by_cases e : i = k
      · subst e
        rw [ho] at hp
        cases hp
        simp only [if_pos, if_neg (show i + 1 ≠ i by omega)]
        exact ⟨hg, t1, hst c1 d1 t3 t3'⟩
      · simp only [if_neg e, if_neg (show i + 1 ≠ k by omega)]
        exact t5 i p (by omega) hp
    rcases h with ⟨e, rfl, b, hm, hrest⟩ | ⟨e, hbi, c, d, rfl, hm, hrest⟩ | ⟨h1, h2, hp, hrest⟩
    · exact go (.made b) hrest (fun b h => by cases h) (fun b h => by cases h) (fun c1 d1 q1 _ => .inl ⟨e, by rw [q1 b rfl]; exact hm⟩)
    · exact go (.done c d) hrest (fun b h => h) (fun b h => by cases h) (fun c1 d1 q1 q1' => .inr (.inl ⟨e, hbi, by rw [q1 c rfl, q1' d rfl]; exact hm⟩))
    · exact go o1 hrest (fun b h => h) (fun b h => h) (fun c1 d1 q1 _ => .inr (.inr ⟨h1, h2, hp⟩))

def fillU (H0 : Heap) (W : One) (c1 d1 : Blk) (L : Array Bool) : Heap := if L.getD W.i false = true then H0.set W.r (some (if L.getD W.j false = true then d1 else c1)) else H0

theorem awp_drawU {T : List A} {H : Heap} {Q : Exit → List A → Heap → Prop} {m id : Nat} (W : One) {t1 : Option TypeId} (hi : W.i ≠ W.j) (h1 : H[W.r]? = some (some (.rows W.s [] t1)))
    (hlt : W.i < ops.size ∧ W.j < ops.size)
    (hrg : rgOk ops.toList (ops.toList.map fun _ => false) (ops.toList.map fun _ => false) = true)
    (hbb : (match ops[W.j]? with | some o => (bindsOf o).contains W.i | none => true) = true)
    (h : UOps E W (H.set W.r none) 0 ops.toList T .no (fun T' c1 => Q .normal T' (H.set W.r (some c1)))) : AWP E (.region id ops true) T H Q m := by
  intro B a w hB hm hs
  obtain ⟨hdf, x, O, rfl, hR, hT⟩ := hs
  have hrr := RgOk.of hrg
  obtain ⟨val, Ts, c1, d1, q1, q2, _, _, q5⟩ := UOps.trace (E := E) (ops := ops) ops.toList 0 T .no _ (by simp) (Nat.zero_le _) h
  have hl1 : W.r < H.length := (List.getElem?_eq_some_iff.1 h1).1
  obtain ⟨hi1, hj1⟩ := hlt
  have hbj1 : ∀ o, ops[W.j]? = some o → W.i ∈ bindsOf o := fun o ho => by rw [ho] at hbb; simpa using hbb
  have hget : ∀ (L : Array Bool) (i k : Nat), L.size = ops.size → i < ops.size → (L.setIfInBounds i true).getD k false = if k = i then true else L.getD k false := fun L i k hL hlt => by
    by_cases e : k = i
    · subst e; simp [hL, hlt]
    · rw [if_neg e, getD_set_ne false (fun h => e h.symm)]
  have hpl : ∀ (L : Array Bool) (k : Nat) b, (H.set W.r none)[k]? = some (some b) → (fillU H W c1 d1 L)[k]? = some (some b) := fun L k b hb => by
    rw [List.getElem?_set] at hb
    by_cases f1 : W.r = k
    · rw [if_pos f1] at hb; split at hb <;> simp at hb
    · rw [if_neg f1] at hb
      unfold fillU
      split <;> simp [List.getElem?_set, f1, hb]
  have hlen : ∀ L : Array Bool, (fillU H W c1 d1 L).length = H.length := fun L => by unfold fillU; split <;> simp
  have tr : TrL E ops val (fillU H W c1 d1) Ts := {
    noguard := fun i o ho => (q5 i o (Nat.zero_le _) ho).1
    step := fun i o ho => (q5 i o (Nat.zero_le _) ho).2.1
    run := fun L i o hL ho hun hb hcl => by
      have hin : i < ops.size := (Array.getElem?_eq_some_iff.1 ho).1
      rcases (q5 i o (Nat.zero_le _) ho).2.2 with ⟨rfl, t, hop, hmk⟩ | ⟨rfl, hbi, hfs⟩ | ⟨hn1, hn3, hfp⟩
      · have hj : L.getD W.j false = false := by
          cases hh : L.getD W.j false with
          | false => rfl
          | true => have := hcl W.j _ hh (Array.getElem?_eq_getElem hj1) W.i (hbj1 _ (Array.getElem?_eq_getElem hj1)); rw [hun] at this; cases this
        have hv : (fillU H W c1 d1 L)[W.r]? = some (some (.rows W.s [] t1)) := by
          unfold fillU
          rw [hun]
          simpa using h1
        have := allocV_y (H := fillU H W c1 d1 L) (T := Ts W.i) hop hv hmk
        have e : fillU H W c1 d1 (L.setIfInBounds W.i true) = (fillU H W c1 d1 L).set W.r (some c1) := by
          unfold fillU
          rw [hget _ _ _ hL hin, hget _ _ _ hL hin, if_pos rfl, if_neg (Ne.symm hi), hun, hj]
          simp
        rw [e]; exact this
      · have hi := hb W.i hbi
        have hv : (fillU H W c1 d1 L)[W.r]? = some (some c1) := by
          unfold fillU
          rw [hun, hi]
          simp [List.getElem?_set, hl1]
        have := hfs _ hv
        have e : fillU H W c1 d1 (L.setIfInBounds W.j true) = (fillU H W c1 d1 L).set W.r (some d1) := by
          unfold fillU
          rw [hget _ _ _ hL hin, hget _ _ _ hL hin, if_pos rfl, hun, hi]
          simp
        rw [e]; exact this
      · have e : fillU H W c1 d1 (L.setIfInBounds i true) = fillU H W c1 d1 L := by
          unfold fillU
          rw [hget _ _ _ hL hin, hget _ _ _ hL hin, if_neg (Ne.symm hn1), if_neg (Ne.symm hn3)]
        rw [e]
        rcases hfp with ⟨f1, f2, f3⟩ | f1
        · exact (Yld.y f1).frame (leH_of (by rw [hlen]; simp) (hpl L)) f2 f3
        · exact f1 _ }
  refine wp_region_any E.hmix ?_
  let y : Ctx := { w := x.w.drew, F := x.F, μ := x.μ, N := x.N, L := x.L }
  have hxy : x.Le y := ⟨fun k hk => ⟨hk, rfl⟩, Nat.le_refl _, Nat.le_refl _, fun id _ s m hm => ⟨m, hm, Nat.le_refl _, fun _ => ⟨rfl, fun _ _ _ => rfl⟩⟩⟩
  have hRy : Rel B y O H := ⟨hR.hL, hR.hN, hR.le.trans hxy, hR.os, hR.tape, hR.output, hR.keep, hR.own, hR.fr, hR.disj, hR.nof, fun id b hb => (hR.blk id b hb).mono hxy rfl (fun _ h => h) (fun _ _ => rfl)⟩
  have hTy := hT.mono hxy
  have hrep : ∀ i, (Array.replicate ops.size false).getD i false = false := fun i => by
    rw [Array.getD_eq_getD_getElem?, Array.getElem?_replicate]
    split <;> rfl
  have h00 : fillU H W c1 d1 (Array.replicate ops.size false) = H := by unfold fillU; rw [hrep]; simp
  have hfin : ∀ L : Array Bool, L.size = ops.size → (∀ i, i < ops.size → L.getD i false = true) → fillU H W c1 d1 L = H.set W.r (some d1) := fun L hL hall => by
    unfold fillU; rw [hall W.i hi1, hall W.j hj1]; simp
  refine tr.any hrr hfin hB (fun a' w' hs' => ⟨Ts ops.size, _, q2, hs'⟩) ops.size (Array.replicate ops.size false) a y O (by simp) ?_ (fun i o hi => by rw [hrep] at hi; cases hi) (by rw [h00]; exact hRy) hdf (by rw [q1]; exact hTy.1) (fun i o hi => by rw [hrep] at hi; cases hi) (fun t ht hn => ?_)
  · have : ((List.range ops.size).filter fun i => !(Array.replicate ops.size false).getD i true) = List.range ops.size := by
      rw [List.filter_eq_self]
      intro i hi
      rw [List.mem_range] at hi
      simp [hi]
    rw [this, List.length_range]
  · rw [q1]
    exact hTy.get t
theorem gu_p {k : Nat} {l : List Oper} {o : Oper} {T : List A} {b1 : Sta} {Q : List A → Blk → Prop} {v : A} (ha : aop E T hd0 o.op = some (v, hd0)) (hg : o.guard = none) (hk : k ≠ W.i ∧ k ≠ W.j) (hv : visA hd0 v = true) (hh : visH hd0 hd0 = true)
    (h : UOps E W hd0 (k + 1) l (putT T o.dst v) b1 Q) : UOps E W hd0 k (o :: l) T b1 Q := ⟨hg, v, .inr (.inr ⟨hk.1, hk.2, .inl ⟨ha, hv, hh⟩, h⟩)⟩
theorem gu_c {k : Nat} {l : List Oper} {o : Oper} {T : List A} {b1 : Sta} {Q : List A → Blk → Prop} {f : FuncId} {al : List A} {rl : A} {fo : Operand} {as1 : Array Operand} (ho : opIs o fo as1) (hfo : ev E T fo = .c (.clo (.func f) [])) (hargs : as1.toList.map (ev E T) = al)
    (hg : o.guard = none) (hk : k ≠ W.i ∧ k ≠ W.j) (hf : AFn E f al [] rl []) (hr : ∀ g, renA g rl = rl) (ha : ∀ g, renAs g al = al) (hoA : okAs 0 al = true)
    (h : UOps E W hd0 (k + 1) l (putT T o.dst rl) b1 Q) : UOps E W hd0 k (o :: l) T b1 Q :=
  ⟨hg, rl, .inr (.inr ⟨hk.1, hk.2, .inr (fun H2 => by
    have := callY (E := E) (T := T) (H := H2) [] hf ho hfo (caps := []) (by rw [ha]; simpa using hargs) (by simp) (by simp) rfl (by simp) hoA rfl
    rw [hr] at this
    simpa [mrg] using this), h⟩)⟩
theorem gu_1 {k : Nat} {l : List Oper} {o : Oper} {T : List A} {Q : List A → Blk → Prop} {v : A} {b : Blk} {t : TypeId} (ho : o.op = .alloc t) (hk : k = W.i) (hm : aAllocV E W.r W.s t = some (v, b)) (hg : o.guard = none)
    (h : UOps E W hd0 (k + 1) l (putT T o.dst v) (.made b) Q) : UOps E W hd0 k (o :: l) T .no Q := ⟨hg, v, .inl ⟨hk, rfl, b, ⟨t, ho, hm⟩, h⟩⟩
theorem toDs_map (H : Heap) : ∀ ds : List D, toDs H (ds.map .d) = some (ds, H)
  | [] => by simp [toDs]
  | d :: ds => by simp [toDs, toD, toDs_map H ds]
theorem splC_full {α : Type} : ∀ {ns l : List α}, ns.length = l.length → splC 0 ns l = some ns
  | [], [], _ => rfl
  | n :: ns, _ :: l, h => by rw [splC, splC_full (ns := ns) (l := l) (by simpa using h)]
  | [], _ :: _, h => by simp at h
  | _ :: _, [], h => by simp at h
theorem fs_n {T : List A} {o : Oper} {r n : Nat} {t : TypeId} {p y : Operand} {xs ds : List D} {ty : Option TypeId} (ho : o.op = .store t p y) (hp : ev E T p = .c (.ptr r 0 0 1)) (hy : ev E T y = .agg (ds.map .d)) (hs : E.size t = some n) (hl : ds.length = n) (hx : xs.length = n) :
    FS E r T o .und (.rows n [xs] ty) (.rows n [ds] ty) := fun H2 h2 => by
  refine Yld.y ?_
  rw [ho]
  simp only [aop]
  unfold aStore put'
  rw [hp, hy, hs]
  have hg : hG H2 r = some (.rows n [xs] ty) := by rw [hG_eq, h2]; rfl
  simp only [cellsOf, List.length_map, hl, if_true, hg, toDs_map]
  simp [hg, rowsAt, splC_full (ns := ds) (l := xs) (by omega), hP_eq]
theorem gu_s {k n : Nat} {l : List Oper} {o : Oper} {T : List A} {Q : List A → Blk → Prop} {t : TypeId} {p y : Operand} {xs ds : List D} {ty : Option TypeId} (ho : o.op = .store t p y) (hk : k = W.j) (hbi : W.i ∈ bindsOf o) (hp : ev E T p = .c (.ptr W.r 0 0 1)) (hy : ev E T y = .agg (ds.map .d)) (hs : E.size t = some n) (hl : ds.length = n) (hx : xs.length = n) (hg : o.guard = none)
    (h : UOps E W hd0 (k + 1) l (putT T o.dst .und) (.done (.rows n [xs] ty) (.rows n [ds] ty)) Q) : UOps E W hd0 k (o :: l) T (.made (.rows n [xs] ty)) Q :=
  ⟨hg, .und, .inr (.inl ⟨hk, hbi, _, _, rfl, fs_n ho hp hy hs hl hx, h⟩)⟩
theorem gu_e {k : Nat} {T : List A} {c1 d1 : Blk} {Q : List A → Blk → Prop} (h : Q T d1) : UOps E W hd0 k [] T (.done c1 d1) Q := ⟨c1, d1, rfl, h⟩
end
end Go.Eng
namespace Go.Eng
open Go.RowKit
set_option linter.unusedVariables false
set_option linter.unusedSimpArgs false
section
variable {B : Base} {x : Ctx} {O : Nat → Nat → Prop} {H : Heap}
theorem Rel.drop (hR : Rel B x O H) {id : Nat} {b : Blk} (hid : H[id]? = some (some b)) (w' : World)
    (hos : w'.os = x.w.os) (htape : w'.tape = x.w.tape) (hout : w'.output = x.w.output) (hsize : x.w.heap.size ≤ w'.heap.size)
    (hkeep : ∀ k, k < x.w.heap.size → ¬ O id k → w'.heap[k]? = x.w.heap[k]?) :
    ∃ y O', y.w = w' ∧ x.Le y ∧ Rel B y O' (H.set id none) := by
  have hlt : id < H.length := (List.getElem?_eq_some_iff.1 hid).1
  let y : Ctx := { w := w', F := x.F, μ := x.μ, N := nOf (H.set id none), L := x.L }
  have hset : ∀ i, i ≠ id → nOf (H.set id none) i = nOf H i := fun i hi => by unfold nOf; rw [List.getElem?_set_ne (by omega)]
  have hself : nOf (H.set id none) id = none := nOf_none (by simp [hlt])
  have hF : ∀ k, x.F k → w'.heap[k]? = x.w.heap[k]? := fun k hk => hkeep k (hR.fr k hk).1 (fun ho => hR.nof _ _ ho hk)
  have hle : x.Le y := by
    refine ⟨fun k hk => ⟨hk, hF k hk⟩, hsize, Nat.le_refl _, fun i hi s m hm => ?_⟩
    by_cases e : i = id
    · subst e
      have h1 : none = some (s, m) := hself ▸ hm
      cases h1
    · have hm' : x.N i = some (s, m) := by rw [hR.hN, ← hset i e]; exact hm
      refine ⟨m, hm', Nat.le_refl _, fun _ => ⟨rfl, fun g lo hg => ?_⟩⟩
      have hb := hR.hN i ▸ hm'
      obtain ⟨bb, hbb, hbn⟩ := nOf_inv hb
      have hO' : O i g := by
        have hB' := hR.blk i bb hbb
        cases bb with
        | box cs ty => obtain ⟨g', vs, t, h1, h2, _⟩ := hB'; rw [h1] at hg; cases hg; exact h2
        | mp es => obtain ⟨g', vs, t, h1, h2, _⟩ := hB'; rw [h1] at hg; cases hg; exact h2
        | raw r => exact hB'.1 _ _ hg
        | rows s' rs =>
          obtain ⟨_, _, h2⟩ := hB'
          rcases h2 with ⟨h2, _⟩ | ⟨g', lo', vs, t, h2, h3, _⟩
          · rw [h2] at hg; cases hg
          · rw [h2] at hg; cases hg; exact h3
      show bsz w' g = _
      unfold bsz
      rw [hkeep g (hR.own i g hO').1 (fun ho => e (hR.disj _ _ _ hO' ho))]
  refine ⟨y, fun i k => i ≠ id ∧ O i k, rfl, hle, ?_⟩
  refine ⟨by show x.L = _; rw [List.length_set]; exact hR.hL, fun _ => rfl, hR.le.trans hle, hos.trans hR.os, htape.trans hR.tape, hout.trans hR.output, fun k hk hA => ?_, fun i k hk => ⟨Nat.lt_of_lt_of_le (hR.own i k hk.2).1 hsize, (hR.own i k hk.2).2⟩, fun k hk => ⟨Nat.lt_of_lt_of_le (hR.fr k hk).1 hsize, (hR.fr k hk).2⟩, fun i j k hi hj => hR.disj _ _ _ hi.2 hj.2, fun i k hk hf => hR.nof _ _ hk.2 hf, fun i bb hb => ?_⟩
  · refine (hkeep k (Nat.lt_of_lt_of_le hk hR.le.size) (fun ho => ?_)).trans (hR.keep k hk hA)
    rcases (hR.own id k ho).2 with h | h
    · exact hA h
    · omega
  · by_cases e : i = id
    · subst e
      rw [List.getElem?_set_self hlt] at hb
      cases hb
    · rw [List.getElem?_set_ne (by omega)] at hb
      exact (hR.blk i bb hb).mono hle rfl (fun _ h => ⟨e, h⟩) (fun k hk => hkeep k (hR.own i k hk).1 (fun ho => e (hR.disj _ _ _ hk ho)))
end
theorem arr1 {vs : Array Value} {a : Value} (h : vs.size = 1) (h0 : vs[0]? = some a) : vs = #[a] := by
  obtain ⟨l⟩ := vs
  match l, h, h0 with
  | [b], _, h0 => simpa using h0
theorem arr2 {vs : Array Value} {a b : Value} (h : vs.size = 2) (h0 : vs[0]? = some a) (h1 : vs[1]? = some b) : vs = #[a, b] := by
  obtain ⟨l⟩ := vs
  match l, h, h0, h1 with
  | [c, d], _, h0, h1 => simp at h0 h1; simp [h0, h1]
theorem TR.one {x : Ctx} {a : A} {u : Value} (h : VA x a u) : TR x [a] #[u] := ⟨rfl, fun i b hb => by
  cases i with
  | zero => cases hb; exact ⟨u, rfl, h⟩
  | succ i => simp at hb⟩
theorem bld_open {B : Base} {x : Ctx} {O : Nat → Nat → Prop} {p q : C} {ty : Option TypeId} {H : Heap} {vs : Array Value} (hR : Rel B x O (some (.box [p, q] ty) :: H)) (hT : TR x [.c (.ptr 0 0 0 0)] vs) :
    ∃ b u v t, vs = #[.pointer (some ⟨b, 0, none⟩)] ∧ x.μ 0 = some (b, 0) ∧ O 0 b ∧ x.w.heap[b]? = some (.cells #[u, v] (ty.getD t) (0, 0)) ∧ VR x p u ∧ VR x q v := by
  obtain ⟨u0, hu0, hv0⟩ := hT.2 0 _ rfl
  cases hv0 with | c _ _ hv0 => cases hv0 with | ptr _ _ _ _ _ hp =>
  obtain ⟨s, b, lo, hN, hμ, hlo, rfl, hne⟩ := ptr_ok hR hp (by simp [livePtr, hG])
  obtain ⟨b', cs, t, hμ', hO, hh, hcs⟩ := hR.blk 0 _ rfl
  rw [hμ] at hμ'
  cases hμ'
  obtain ⟨u, hu, hvu⟩ := hcs.2 0 _ rfl
  obtain ⟨v, hv, hvv⟩ := hcs.2 1 _ rfl
  refine ⟨b, u, v, t, arr1 hT.1 (by simpa using hu0), hμ, hO, ?_, hvu, hvv⟩
  rw [hh, arr2 hcs.1 hu hv]
theorem afn_fresh {E : Env} {f : FuncId} {TB : TypeId} {c : C} {H : Heap} (hf : fnOk E.P f = true)
    (h : ∀ (b : Nat) (w : World), w.cell? ⟨b, 0, none⟩ = some (.pointer none) → w.shape? b = some (TB, 2) → w.frozen? ⟨b, 0, none⟩ = false → Calls E.P f #[.pointer (some ⟨b, 0, none⟩)] w fun e w' => e = .returned (.tuple #[]) ∧ w' = w.setCell ⟨b, 0, none⟩ (.pointer (some ⟨b, 0, none⟩))) :
    AFn E f [.c (.ptr 0 0 0 0)] (some (.box [.d (.sc (.pointer none)), c] (some TB)) :: H) (.tup []) (some (.box [.ptr 0 0 0 0, c] (some TB)) :: H) := by
  refine ⟨hf, fun B vs w hB hm hs => ?_⟩
  obtain ⟨x, O, rfl, hR, hT⟩ := hs
  obtain ⟨b, u, v, t, rfl, hμ, hO, hh, hu, hv⟩ := bld_open hR hT
  cases hu with | d _ _ hu => cases hu with | sc _ _ =>
  have hlt : b < x.w.heap.size := (hR.own 0 b hO).1
  refine Calls.mono (h b x.w (by simp [World.cell?, hh]) (by simp [World.shape?, hh]) (by simp [World.frozen?, hh])) ?_
  rintro e w' ⟨rfl, rfl⟩
  have hh' : (x.w.setCell ⟨b, 0, none⟩ (.pointer (some ⟨b, 0, none⟩))).heap[b]? = some (.cells #[.pointer (some ⟨b, 0, none⟩), v] TB (0, 0)) := by
    simp [World.setCell, Array.getElem?_modify, hh]
  have hk : ∀ k, k ≠ b → (x.w.setCell ⟨b, 0, none⟩ (.pointer (some ⟨b, 0, none⟩))).heap[k]? = x.w.heap[k]? := fun k hk => by
    simp [World.setCell, Array.getElem?_modify, Ne.symm hk]
  have hsz : (x.w.setCell ⟨b, 0, none⟩ (.pointer (some ⟨b, 0, none⟩))).heap.size = x.w.heap.size := by simp [World.setCell]
  obtain ⟨y, O', e1, l1, f1, m1, R1⟩ := hR.upd (id := 0) (b' := .box [.ptr 0 0 0 0, c] (some TB)) rfl (x.w.setCell ⟨b, 0, none⟩ (.pointer (some ⟨b, 0, none⟩))) (some (b, 0)) (O 0) rfl rfl rfl (by omega)
    (fun k _ hno => hk k (fun e => hno (e ▸ hO))) (fun k hk => ⟨.inl hk, by rw [hsz]; exact (hR.own 0 k hk).1⟩)
    ⟨rfl, Nat.le_refl _, fun _ => ⟨hμ.symm, fun g lo hg => by
      rw [hμ] at hg
      cases hg
      unfold bsz
      rw [hh', hh]; rfl⟩⟩
    (fun y hw hle hF hμ' => ⟨b, #[.pointer (some ⟨b, 0, none⟩), v], TB, hμ', hO, by rw [hw]; exact hh', rfl, fun i d hd => by
      match i, hd with
      | 0, hd =>
        cases hd
        refine ⟨_, rfl, .ptr _ _ _ _ _ ⟨rfl, ?_, fun s m hsm => ?_⟩⟩
        · exact Nat.lt_of_lt_of_le (by rw [hR.hL]; simp) hle.L
        · obtain ⟨n, hn, hnm, _⟩ := hle.N 0 (by rw [hR.hL]; simp) s m hsm
          rw [hR.hN] at hn
          simp [nOf] at hn
          obtain ⟨rfl, rfl⟩ := hn
          exact ⟨Nat.zero_le _, fun h0 => ⟨b, 0, hμ', Nat.le_refl _, by subst h0; simp⟩⟩
      | 1, hd => cases hd; exact ⟨v, rfl, hv.mono hle⟩⟩)
  exact ⟨_, rfl, y, O', e1, R1, TR.one (.tup [] #[] (fun _ => undef) rfl (fun i a h => by simp at h) (fun i a h => by simp at h))⟩
theorem afn_used {E : Env} {f : FuncId} {c : C} {ty : Option TypeId} {H : Heap} (hf : fnOk E.P f = true)
    (h : ∀ (b : Nat) (w : World), w.cell? ⟨b, 0, none⟩ = some (.pointer (some ⟨b, 0, none⟩)) → Calls E.P f #[.pointer (some ⟨b, 0, none⟩)] w fun e w' => e = .returned (.tuple #[]) ∧ w' = w) :
    AFn E f [.c (.ptr 0 0 0 0)] (some (.box [.ptr 0 0 0 0, c] ty) :: H) (.tup []) (some (.box [.ptr 0 0 0 0, c] ty) :: H) := by
  refine ⟨hf, fun B vs w hB hm hs => ?_⟩
  obtain ⟨x, O, rfl, hR, hT⟩ := hs
  obtain ⟨b, u, v, t, rfl, hμ, hO, hh, hu, hv⟩ := bld_open hR hT
  cases hu with | ptr _ _ _ _ _ hp =>
  obtain ⟨s, b', lo, hN, hμ', hlo, rfl, hne⟩ := ptr_ok hR hp (by simp [livePtr, hG])
  rw [hμ] at hμ'
  cases hμ'
  refine Calls.mono (h b x.w (by simp [World.cell?, hh])) ?_
  rintro e w' ⟨rfl, rfl⟩
  exact ⟨_, rfl, x, O, rfl, hR, TR.one (.tup [] #[] (fun _ => undef) rfl (fun i a h => by simp at h) (fun i a h => by simp at h))⟩
theorem afn_text {E : Env} {f : FuncId} {T8 : TypeId} {p : C} {ty : Option TypeId} {s : List UInt8} (hf : fnOk E.P f = true) (h0 : s ≠ [])
    (h : ∀ (b g cap cells : Nat) (w : World), w.drew.cell? ⟨b, 1, none⟩ = some (.slice (some ⟨g, 0, none⟩) s.length cap) → s.length ≤ cap → s.length ≤ cells → w.drew.shape? g = some (T8, cells) →
      (∀ j y, s[j]? = some y → w.drew.cell? ((⟨g, 0, none⟩ : Addr).add j) = some (.int .u8 y.toNat)) → Calls E.P f #[.pointer (some ⟨b, 0, none⟩)] w fun e w' => e = .returned (.string ⟨s.toArray⟩) ∧ w' = w.drew.freeze ⟨g, 0, none⟩ s.length) :
    AFn E f [.c (.ptr 0 0 0 0)] [some (.box [p, .own 1 0 s.length s.length] ty), some (.rows 1 (s.map fun b => [.sc (.int .u8 b.toNat)]) (some T8))] (.c (.d (.sc (.string (st s))))) [none, none] := by
  have hl : 0 < s.length := List.length_pos_iff.2 h0
  refine ⟨hf, fun B vs w hB hm hs => ?_⟩
  obtain ⟨x, O, rfl, hR, hT⟩ := hs
  obtain ⟨b, u, v, t, rfl, hμ, hO, hh, hu, hv⟩ := bld_open hR hT
  cases hv with | own _ _ _ _ _ hv =>
  obtain ⟨_, hid, hv⟩ := hv
  have hv := (hv 1 s.length (by rw [hR.hN]; simp [nOf])).2 rfl
  obtain ⟨_, hs1, hrw⟩ := hR.blk 1 _ rfl
  rcases hrw with ⟨_, he⟩ | ⟨g, lo, cs, t', hμ1, hO1, hg, hlo, hsz, hcs⟩
  · exact absurd (List.map_eq_nil_iff.1 he) h0
  rw [hμ1] at hv
  obtain ⟨a, cap, sz, rfl, ha, hlo0, hl1, hl2, hl3, hbs, hb2⟩ := hv
  obtain rfl : lo = 0 := by omega
  have hc0 : cap ≠ 0 := by omega
  obtain rfl : a = ⟨g, 0, none⟩ := by rcases ha with h | h; exact absurd h hc0; simpa using h
  rw [List.length_map] at hsz
  refine Calls.mono (h b g cap cs.size x.w ?_ (by omega) (by omega) ?_ ?_) ?_
  · show x.w.cell? _ = _
    simp [World.cell?, hh]
  · show x.w.shape? _ = _
    simp [World.shape?, hg]
  · intro j y hy
    have hj : j < s.length := (List.getElem?_eq_some_iff.1 hy).1
    obtain ⟨u', hu1, hu2⟩ := hcs j _ 0 _ (Nat.zero_le _) (by rw [List.getElem?_map, hy]; rfl) rfl
    cases hu2 with | sc _ _ =>
    have hadd : (⟨g, 0, none⟩ : Addr).add j = ⟨g, j, none⟩ := by unfold Addr.add; split <;> simp_all
    rw [hadd]
    show x.w.cell? _ = _
    simp only [World.cell?, hg]
    simpa using hu1
  · rintro e w' ⟨rfl, rfl⟩
    obtain ⟨y, O1, e1, l1, R1⟩ := hR.drop (id := 1) rfl (x.w.drew.freeze ⟨g, 0, none⟩ s.length) (by unfold World.freeze; split <;> rfl) (by unfold World.freeze; split <;> rfl) (by unfold World.freeze; split <;> rfl)
      (by unfold World.freeze; split; exact Nat.le_refl _; show _ ≤ (x.w.heap.modify _ _).size; simp) (fun k _ hno => by
        have hk : k ≠ g := fun e => hno (e ▸ hO1)
        unfold World.freeze
        split
        · rfl
        · show (x.w.heap.modify _ _)[k]? = _
          simp [Array.getElem?_modify, Ne.symm hk])
    obtain ⟨z, O2, e2, l2, f2, R2⟩ := R1.freeze (id := 0) rfl
    exact ⟨_, rfl, z, O2, e2.trans e1, R2, TR.one (.c _ _ (.d _ _ (.sc _ rfl)))⟩
theorem afn_void {E : Env} {f : FuncId} {p : C} {ty : Option TypeId} {H : Heap} (hf : fnOk E.P f = true)
    (h : ∀ (b : Nat) (w : World), w.drew.cell? ⟨b, 1, none⟩ = some (.slice none 0 0) → Calls E.P f #[.pointer (some ⟨b, 0, none⟩)] w fun e w' => e = .returned (.string ⟨#[]⟩) ∧ w' = w.drew) :
    AFn E f [.c (.ptr 0 0 0 0)] (some (.box [p, .nils] ty) :: H) (.c (.d (.sc (.string (st []))))) (none :: H) := by
  refine ⟨hf, fun B vs w hB hm hs => ?_⟩
  obtain ⟨x, O, rfl, hR, hT⟩ := hs
  obtain ⟨b, u, v, t, rfl, hμ, hO, hh, hu, hv⟩ := bld_open hR hT
  cases hv with | nils =>
  refine Calls.mono (h b x.w (by show x.w.cell? _ = _; simp [World.cell?, hh])) ?_
  rintro e w' ⟨rfl, rfl⟩
  obtain ⟨y, O1, e1, l1, R1⟩ := hR.drop (id := 0) rfl x.w.drew rfl rfl rfl (Nat.le_refl _) (fun k _ _ => rfl)
  exact ⟨_, rfl, y, O1, e1, R1, TR.one (.c _ _ (.d _ _ (.sc _ rfl)))⟩
end Go.Eng
namespace Go.Eng
open Go.RowKit
set_option linter.unusedVariables false
set_option linter.unusedSimpArgs false
def swp (k l i : Nat) : Nat := if i = k then l else if i = l then k else i
def renH (g : Nat → Nat) : Heap → Heap
  | [] => []
  | b :: H => renB g b :: renH g H
def swH (k l : Nat) (H : Heap) : Heap := renH (swp k l) (hP (hP H k (hG H l)) l (hG H k))
theorem renH_eq (g : Nat → Nat) : ∀ H : Heap, renH g H = H.map (renB g)
  | [] => rfl
  | b :: H => by simp [renH, renH_eq g H]
theorem swp_swp (k l i : Nat) : swp k l (swp k l i) = i := by
  unfold swp
  repeat' split
  all_goals omega
@[simp] theorem swH_length (k l : Nat) (H : Heap) : (swH k l H).length = H.length := by simp [swH, renH_eq, hP_eq]
theorem wk_swap {m : Nat} {T : List A} {H : Heap} (k l : Nat) (hk : m ≤ k) (hl : m ≤ l) (hk2 : k < H.length) (hl2 : l < H.length) (hne : k ≠ l) : Wk m T H (renAs (swp k l) T) (swH k l H) := by
  intro B a w hm hsr
  obtain ⟨hd, x, O, rfl, hR, hT⟩ := hsr
  have hlen : (swH k l H).length = H.length := by simp [swH, renH_eq, hP_eq]
  have hget : ∀ i, (swH k l H)[i]? = (H[swp k l i]?).map (renB (swp k l)) := fun i => by
    simp only [swH, renH_eq, hP_eq, hG_eq, List.getElem?_map]
    congr 1
    unfold swp
    split
    · rename_i e; subst e
      rw [List.getElem?_set_ne (by omega), List.getElem?_set_self (by omega), List.getElem?_eq_getElem hl2]; rfl
    · split
      · rename_i e; subst e
        rw [List.getElem?_set_self (by simp; omega), List.getElem?_eq_getElem hk2]; rfl
      · rw [List.getElem?_set_ne (by omega), List.getElem?_set_ne (by omega)]
  have hx : x.L = H.length := hR.hL
  have hlt : ∀ i, i < x.L → swp k l i < x.L := fun i hi => by
    unfold swp
    repeat' split
    all_goals omega
  let y : Ctx := { w := x.w, F := x.F, μ := fun i => x.μ (swp k l i), N := fun i => x.N (swp k l i), L := x.L }
  have hμ : ∀ i, i < x.L → y.μ (swp k l i) = x.μ i := fun i _ => by show x.μ _ = _; rw [swp_swp]
  have hN : ∀ i, i < x.L → y.N (swp k l i) = x.N i := fun i _ => by show x.N _ = _; rw [swp_swp]
  have hid : ∀ i, i < m → swp k l i = i := fun i hi => by unfold swp; rw [if_neg (by omega), if_neg (by omega)]
  refine ⟨hd, y, fun i b => O (swp k l i) b, rfl, ?_, ⟨by rw [renAs_eq, List.length_map]; exact hT.1, fun i b hb => ?_⟩⟩
  · refine ⟨by rw [hlen]; exact hx, fun i => by show x.N _ = _; rw [hR.hN]; exact (nOf_ren (hget i)).symm, ⟨hR.le.F, hR.le.size, hR.le.L, fun i hi s n hn => ?_⟩, hR.os, hR.tape, hR.output, hR.keep, fun i b h => hR.own _ b h, hR.fr, fun i j b h1 h2 => ?_, fun i b h => hR.nof _ b h, fun i b hb => ?_⟩
    · have e := hid i (by omega)
      have hn' : x.N i = some (s, n) := by rw [← e]; exact hn
      obtain ⟨q, h1, h2, h3⟩ := hR.le.N i hi s n hn'
      refine ⟨q, h1, h2, fun h => ?_⟩
      obtain ⟨h4, h5⟩ := h3 h
      exact ⟨by show x.μ _ = _; rw [e]; exact h4, h5⟩
    · have := hR.disj _ _ _ h1 h2
      have := congrArg (swp k l) this
      rwa [swp_swp, swp_swp] at this
    · rw [hget] at hb
      obtain ⟨c, hc, hcb⟩ := Option.map_eq_some_iff.1 hb
      have hlt' : swp k l i < x.L := by rw [hx]; exact (List.getElem?_eq_some_iff.1 hc).1
      cases c with
      | none => simp [renB] at hcb
      | some c =>
        have := BR.toGlob (x := x) (y := y) (g := swp k l) (O' := fun b => O (swp k l i) b) rfl rfl hlt hμ hN (fun _ h => h) hlt' (hR.blk _ c hc) b hcb
        rwa [swp_swp] at this
  · rw [renAs_eq, List.getElem?_map] at hb
    obtain ⟨c, hc, rfl⟩ := Option.map_eq_some_iff.1 hb
    obtain ⟨u, hu, hv⟩ := hT.2 i c hc
    exact ⟨u, hu, VA.toGlob (x := x) (y := y) rfl rfl hlt hμ hN hv⟩
theorem fin_hand {E : Env} {rs : List ResultVar} {l : List A} {T : List A} {H H' : Heap} {m : Nat} {r : A} (h1 : resA E T H rs = some l) (h2 : Wk m [oneRes l] H [r] H') : Fin E rs r H' m .ret T H := ⟨l, h1, h2⟩
attribute [go_sem] oneRes swH renH renB renCs renC renAs renA swp
end Go.Eng
namespace Go.Eng
open Go.RowKit
set_option linter.unusedVariables false
set_option linter.unusedSimpArgs false
theorem mrg_same (g : Nat → Nat) : ∀ (sel : List Nat) (l H : Heap), l.map (renB g) = sel.map (hB H) → (∀ s ∈ sel, s < H.length) → mrg g sel l H = H
  | [], [], H, _, _ => by simp [mrg]
  | [], b :: l, H, h, _ => by simp at h
  | s :: sel, [], H, h, _ => by simp at h
  | s :: sel, b :: l, H, h, hs => by
    simp only [List.map_cons, List.cons.injEq] at h
    have hlt := hs s (by simp)
    have e : hP H s (renB g b) = H := by
      rw [hP_eq, h.1]
      apply List.ext_getElem? fun i => ?_
      by_cases hi : s = i
      · subst hi
        rw [List.getElem?_set_self hlt, List.getElem?_eq_getElem hlt]
        simp [hB, List.getElem?_eq_getElem hlt]
      · rw [List.getElem?_set_ne hi]
    rw [mrg, e]
    exact mrg_same g sel l H h.2 (fun t ht => hs t (by simp [ht]))
theorem dcallR {E : Env} {na : Bool} {hd : Heap} {T : List A} {H : Heap} {o : Oper} {K : A → Heap → Prop} (sel : List Nat) {f : FuncId} {args al : List A} {Hl : Heap} {fo : Operand} {as : Array Operand} {caps : List C}
    (ho : opIs o fo as) (hfo : ev E T fo = .c (.clo (.func f) caps)) (hargs : as.toList.map (ev E T) ++ caps.map .c = args) (hl : invAs sel args = some al) (hh : invH sel H sel = some Hl) (hc : chk sel H.length = true)
    (h : ∃ rl, AFn E f al Hl rl Hl ∧ K (renA (gl sel H.length) rl) H) : DStep E na hd false false T H o K := by
  obtain ⟨rl, hf, hk⟩ := h
  obtain ⟨h1, h2⟩ := invAs_ok H.length hl
  obtain ⟨h3, h4⟩ := invH_ok H.length hh
  obtain ⟨c1, c2⟩ := chk_ok hc
  have hlen : Hl.length = sel.length := by simpa using congrArg List.length h3
  have hy := callY (E := E) (T := T) (H := H) sel hf ho hfo (by rw [h1, hargs]) c1 c2 hlen (fun k b hk => ?_) (by rw [hlen]; exact h2) (by rw [hlen]; exact h4)
  · rw [mrg_same _ sel Hl H h3 c2] at hy
    exact ⟨_, hy, hk⟩
  have h5 : (Hl.map (renB (gl sel H.length)))[k]? = some (renB (gl sel H.length) b) := by simp [hk]
  rw [h3, List.getElem?_map, Option.map_eq_some_iff] at h5
  obtain ⟨s, hs, he⟩ := h5
  have hg : gl sel H.length k = s := by simp only [gl, hs]
  rw [hg, ← he]
  have hlt := c2 s (List.mem_of_getElem? hs)
  simp [hB, List.getElem?_eq_getElem hlt]
section
variable {E : Env} {T : List A} {H H1 : Heap} {o : Oper} {K : A → Heap → Prop} {f : FuncId} {args al : List A} {Hl hd : Heap} {fo : Operand} {as : Array Operand} {caps : List C} {na b : Bool}
theorem zdR (sel : List Nat) (h : ∃ rl, AFn E f al Hl rl Hl ∧ K (renA (gl sel H.length) rl) H) (ho : opIs o fo as := by exact ⟨_, rfl⟩) (hfo : ev E T fo = .c (.clo (.func f) caps) := by rfl)
    (hargs : as.toList.map (ev E T) ++ caps.map .c = args := by (simp (maxSteps := 500000) (disch := omega) only [go_sem, Bool.not_not, List.mem_singleton, forall_eq, ↓reduceIte, if_pos, rowsAt_map, wrap64, wrapu8, List.getElem?_cons_zero, List.getElem?_cons_succ, Int.reduceToNat, Nat.reduceAdd, Nat.reduceBEq, Bool.or_false, Bool.false_or, Bool.true_or, Nat.reduceSub, Nat.reduceMul, Int.reduceAdd, Int.reduceEq, Int.reduceLT, Int.reduceLE, Int.reduceNeg, Nat.reduceLT, Nat.reduceLeDiff, Nat.reduceEqDiff]; first | done | rfl | fail)) (hl : invAs sel args = some al := by (simp (maxSteps := 500000) (disch := omega) only [go_sem, Bool.not_not, List.mem_singleton, forall_eq, ↓reduceIte, if_pos, rowsAt_map, wrap64, wrapu8, List.getElem?_cons_zero, List.getElem?_cons_succ, Int.reduceToNat, Nat.reduceAdd, Nat.reduceBEq, Bool.or_false, Bool.false_or, Bool.true_or, Nat.reduceSub, Nat.reduceMul, Int.reduceAdd, Int.reduceEq, Int.reduceLT, Int.reduceLE, Int.reduceNeg, Nat.reduceLT, Nat.reduceLeDiff, Nat.reduceEqDiff]; first | done | rfl | fail)) (hh : invH sel H sel = some Hl := by (simp (maxSteps := 500000) (disch := omega) only [go_sem, Bool.not_not, List.mem_singleton, forall_eq, ↓reduceIte, if_pos, rowsAt_map, wrap64, wrapu8, List.getElem?_cons_zero, List.getElem?_cons_succ, Int.reduceToNat, Nat.reduceAdd, Nat.reduceBEq, Bool.or_false, Bool.false_or, Bool.true_or, Nat.reduceSub, Nat.reduceMul, Int.reduceAdd, Int.reduceEq, Int.reduceLT, Int.reduceLE, Int.reduceNeg, Nat.reduceLT, Nat.reduceLeDiff, Nat.reduceEqDiff]; first | done | rfl | fail)) (hc : chk sel H.length = true := by rfl) : DStep E na hd false false T H o K := dcallR sel ho hfo hargs hl hh hc h
end
end Go.Eng
namespace Go.Eng
open Go.RowKit
set_option linter.unusedVariables false
set_option linter.unusedSimpArgs false
set_option linter.unnecessarySimpa false

section
variable {Θ : Type} {E : Env} {ops : Array Oper} {wr am : List Bool} {s : Nat} {val : Θ → Nat → A} {hp : Θ → Array Bool → Heap} {Ts : Θ → Nat → List A}
def Clo (ops : Array Oper) (listed : Array Bool) : Prop := ∀ (i : Nat) o, listed.getD i false = true → ops[i]? = some o → ∀ j, j ∈ bindsOf o → listed.getD j false = true
def OpN (E : Env) (T : List A) (H : Heap) (o : Oper) (v : Θ → A) (H' : Θ → Heap) : Prop :=
  ∀ (B : Base) (x : Ctx) (O : Nat → Nat → Prop) (a : Act) (K : Act → World → Prop) (Q : Exit → Act → World → Prop), B.ok E → Rel B x O H → a.defers = [] → a.tmps.size = T.length →
    (∀ y, y ∈ o.op.operands.toList → VA x (ev E T y) (a.eval y)) →
    (∀ θ v' x' O', x.Le x' → Rel B x' O' (H' θ) → VA x' (v θ) v' → K (a.put o.dst v') x'.w) → o.wp E.P a x.w K Q
structure TrN (E : Env) (ops : Array Oper) (s : Nat) (val : Θ → Nat → A) (hp : Θ → Array Bool → Heap) (Ts : Θ → Nat → List A) : Prop where
  noguard : ∀ (i : Nat) o, ops[i]? = some o → o.guard = none
  step : ∀ θ (i : Nat) o, ops[i]? = some o → Ts θ (i + 1) = putT (Ts θ i) o.dst (val θ i)
  zero : ∀ θ θ', Ts θ 0 = Ts θ' 0
  same : ∀ θ θ' i, i ≠ s → val θ i = val θ' i
  run : ∀ θ (listed : Array Bool) (i : Nat) o, listed.size = ops.size → ops[i]? = some o → i ≠ s → listed.getD i false = false → (∀ j, j ∈ bindsOf o → listed.getD j false = true) → Clo ops listed → OpY E (Ts θ i) (hp θ listed) o (val θ i) (hp θ (listed.setIfInBounds i true))
  runs : ∀ θ (listed : Array Bool) o, listed.size = ops.size → ops[s]? = some o → listed.getD s false = false → (∀ j, j ∈ bindsOf o → listed.getD j false = true) → Clo ops listed → OpN E (Ts θ s) (hp θ listed) o (fun θ => val θ s) (fun θ => hp θ (listed.setIfInBounds s true))

theorem TrN.length (tr : TrN E ops s val hp Ts) (θ : Θ) : ∀ i, i ≤ ops.size → (Ts θ i).length = (Ts θ 0).length
  | 0, _ => rfl
  | i + 1, h => by
    have ho : ops[i]? = some ops[i] := Array.getElem?_eq_getElem (by omega)
    rw [tr.step θ i _ ho, putT_length]
    exact TrN.length tr θ i (by omega)

theorem TrN.slot (hrg : RgOk ops wr am) (tr : TrN E ops s val hp Ts) (θ : Θ) {t : Nat} (ht : t < (Ts θ 0).length) : ∀ i, i ≤ ops.size →
    (∀ j o, j < i → ops[j]? = some o → o.dst = some t → gT (Ts θ i) t = val θ j) ∧ ((∀ j o, j < i → ops[j]? = some o → o.dst ≠ some t) → gT (Ts θ i) t = gT (Ts θ 0) t)
  | 0, _ => ⟨fun j o h => by omega, fun _ => rfl⟩
  | i + 1, h => by
    obtain ⟨h1, h2⟩ := TrN.slot hrg tr θ ht i (by omega)
    have ho : ops[i]? = some ops[i] := Array.getElem?_eq_getElem (by omega)
    have hlen := tr.length θ i (by omega)
    rw [tr.step θ i _ ho]
    refine ⟨fun j o hj hoj hd => ?_, fun hn => ?_⟩
    · rw [get_putT]
      by_cases e : j = i
      · subst e
        rw [ho] at hoj
        cases hoj
        rw [if_pos ⟨hd, by rw [hlen]; exact ht⟩]
      · have hne : (ops[i]).dst ≠ some t := fun hdi => hrg.dist j i o _ (by simpa using hoj) (by simpa using ho) e t hd hdi
        rw [if_neg (fun h => hne h.1)]
        exact h1 j o (by omega) hoj hd
    · rw [get_putT, if_neg (fun h => hn i _ (by omega) ho h.1)]
      exact h2 (fun j o hj hoj => hn j o (by omega) hoj)

theorem TrN.any (hrg : RgOk ops wr am) (tr : TrN E ops s val hp Ts) {Hf : Θ → Heap} (hfin : ∀ θ (listed : Array Bool), listed.size = ops.size → (∀ i, i < ops.size → listed.getD i false = true) → hp θ listed = Hf θ) {B : Base} (hB : B.ok E) {Q' : Exit → Act → World → Prop} (hQ : ∀ θ a w, SR B (Ts θ ops.size) (Hf θ) a w → Q' .normal a w) :
    ∀ (fuel : Nat) (θ : Θ) (listed : Array Bool) (a : Act) (x : Ctx) (O : Nat → Nat → Prop), listed.size = ops.size → ((List.range ops.size).filter fun i => !listed.getD i true).length = fuel →
      (∀ (i : Nat) o, listed.getD i false = true → ops[i]? = some o → ∀ j, j ∈ bindsOf o → listed.getD j false = true) → Rel B x O (hp θ listed) → a.defers = [] → a.tmps.size = (Ts θ 0).length →
      (∀ (i : Nat) o, listed.getD i false = true → ops[i]? = some o → ∀ t, o.dst = some t → t < (Ts θ 0).length → VA x (val θ i) (a.tmps.getD t undef)) →
      (∀ t, t < (Ts θ 0).length → (∀ (i : Nat) o, listed.getD i false = true → ops[i]? = some o → o.dst ≠ some t) → VA x (gT (Ts θ 0) t) (a.tmps.getD t undef)) →
      wpAny E.P .any ops Q' fuel listed a x.w := by
  intro fuel
  induction fuel with
  | zero =>
    intro θ listed a x O hsz hcount hcl hR hd hts h1 h2
    have hall : ∀ i, i < ops.size → listed.getD i false = true := fun i hi => by
      have hnil := List.length_eq_zero_iff.1 hcount
      have : i ∉ (List.range ops.size).filter fun i => !listed.getD i true := by rw [hnil]; simp
      simp only [List.mem_filter, List.mem_range, hi, true_and, Bool.not_eq_true', Bool.not_eq_false] at this
      have hlt : i < listed.size := by omega
      simpa [hlt] using this
    refine ⟨?_, ?_⟩
    · unfold Region.ready
      rw [List.filter_eq_nil_iff]
      intro i hi
      rw [List.mem_range] at hi
      have := hall i hi
      have hlt : i < listed.size := by omega
      simp [hlt] at this ⊢
      intro h
      rw [this] at h; cases h
    · have hq' := hfin θ listed hsz hall
      refine hQ θ a x.w ⟨hd, x, O, rfl, by rw [← hq']; exact hR, by rw [tr.length θ _ (Nat.le_refl _)]; exact hts, fun t b hb => ?_⟩
      have ht : t < (Ts θ 0).length := by rw [← tr.length θ _ (Nat.le_refl _)]; exact (List.getElem?_eq_some_iff.1 hb).1
      have htt : t < a.tmps.size := by omega
      refine ⟨a.tmps.getD t undef, by simp [htt], ?_⟩
      have hgt : gT (Ts θ ops.size) t = b := by rw [gT_eq, hb]; rfl
      obtain ⟨s1, s2⟩ := tr.slot hrg θ ht ops.size (Nat.le_refl _)
      by_cases hex : ∃ j o, j < ops.size ∧ ops[j]? = some o ∧ o.dst = some t
      · obtain ⟨j, o, hj, hoj, hdj⟩ := hex
        rw [← hgt, s1 j o hj hoj hdj]
        exact h1 j o (hall j hj) hoj t hdj ht
      · rw [← hgt, s2 (fun j o hj hoj hdj => hex ⟨j, o, hj, hoj, hdj⟩)]
        exact h2 t ht (fun i o hl hoi hdi => hex ⟨i, o, (Array.getElem?_eq_some_iff.1 hoi).1, hoi, hdi⟩)
  | succ fuel ih =>
    intro θ listed a x O hsz hcount hcl hR hd hts h1 h2
    refine ⟨fun hnil => ?_, fun i hi => ?_⟩
    · exfalso
      -- the first that is not listed may come up
      have hex : ∃ i, i < ops.size ∧ listed.getD i false = false := by
        have : ((List.range ops.size).filter fun i => !listed.getD i true) ≠ [] := fun h => by rw [h] at hcount; simp at hcount
        obtain ⟨i, hi⟩ := List.exists_mem_of_ne_nil _ this
        simp only [List.mem_filter, List.mem_range, Bool.not_eq_true'] at hi
        have hlt : i < listed.size := by omega
        refine ⟨i, hi.1, ?_⟩
        simpa [hlt] using hi.2
      obtain ⟨i, ⟨hi, hun⟩, hmin⟩ := exists_least (p := fun i => i < ops.size ∧ listed.getD i false = false) hex
      have ho : ops[i]? = some ops[i] := by simp [hi]
      have hlt : i < listed.size := by omega
      have : i ∈ Region.ready .any ops listed := by
        rw [mem_ready]
        refine ⟨by simpa [hlt] using hun, ops[i], ho, fun e he hb => ?_⟩
        have hmem : e.on ∈ bindsOf ops[i] := by
          unfold bindsOf
          exact List.mem_map.2 ⟨e, List.mem_filter.2 ⟨by simpa using he, hb⟩, rfl⟩
        have hlt2 := hrg.lt i _ (by simpa using ho) e.on hmem
        cases hl : listed.getD e.on false with
        | true => rfl
        | false => have := hmin e.on ⟨by omega, hl⟩; omega
      rw [hnil] at this
      cases this
    · obtain ⟨hun, o, ho, hall⟩ := mem_ready.1 hi
      have hin : i < ops.size := (Array.getElem?_eq_some_iff.1 ho).1
      have hlt : i < listed.size := by omega
      have hunf : listed.getD i false = false := by simpa [hlt] using hun
      have hol : ops.toList[i]? = some o := by simpa using ho
      have hbl : ∀ j, j ∈ bindsOf o → listed.getD j false = true := fun j hj => by
        unfold bindsOf at hj
        obtain ⟨e, he, rfl⟩ := List.mem_map.1 hj
        rw [List.mem_filter] at he
        exact hall e (by simpa using he.1) he.2
      have hanc : ∀ j, j ∈ (ancs ops.toList).getD i [] → listed.getD j false = true := fun j hj => by
        have hji := anc_lt hrg.lt i o hol j hj
        have := anc_closed (ops := ops.toList) (L := fun k => listed.getD k false = true ∨ k = i) (fun k p hk hp j hj => by
          rcases hk with hk | rfl
          · exact .inl (hcl k p hk (by simpa using hp) j hj)
          · rw [hol] at hp; cases hp; exact .inl (hbl j hj)) i o hol (.inr rfl) j hj
        exact this.resolve_right (by omega)
      have hdesc : ∀ k p, ops[k]? = some p → i ∈ (ancs ops.toList).getD k [] → listed.getD k false = false := fun k p hk hik => by
        cases hl : listed.getD k false with
        | false => rfl
        | true =>
          have := anc_closed (ops := ops.toList) (L := fun k => listed.getD k false = true) (fun k p hk hp j hj => hcl k p hk (by simpa using hp) j hj) k p (by simpa using hk) hl i hik
          rw [hunf] at this; cases this
      -- what it looks at is as in the order of the text
      have hslot : ∀ t, t ∈ looks ops.toList o → VA x (gT (Ts θ i) t) (a.tmps.getD t undef) := fun t htl => by
        by_cases ht : t < (Ts θ 0).length
        · obtain ⟨s1, s2⟩ := tr.slot hrg θ ht i (by omega)
          by_cases hex : ∃ j p, j < i ∧ ops[j]? = some p ∧ p.dst = some t
          · obtain ⟨j, p, hj, hpj, hdj⟩ := hex
            rw [s1 j p hj hpj hdj]
            have hl : listed.getD j false = true := by
              rcases hrg.look i j o p hol (by simpa using hpj) (by omega) t hdj htl with h | h
              · exact hanc j h
              · have := anc_lt hrg.lt j p (by simpa using hpj) i h; omega
            exact h1 j p hl hpj t hdj ht
          · rw [s2 (fun j p hj hpj hdj => hex ⟨j, p, hj, hpj, hdj⟩)]
            refine h2 t ht (fun k p hl hpk hdk => ?_)
            by_cases e : k = i
            · subst e; rw [hunf] at hl; cases hl
            · rcases hrg.look i k o p hol (by simpa using hpk) (fun h => e h.symm) t hdk htl with h | h
              · have hki := anc_lt hrg.lt i o hol k h
                exact hex ⟨k, p, hki, hpk, hdk⟩
              · rw [hdesc k p hpk h] at hl; cases hl
        · rw [gT_eq, List.getElem?_eq_none (by rw [tr.length θ i (by omega)]; omega)]
          exact .any _
      have hops : ∀ y, y ∈ o.op.operands.toList → VA x (ev E (Ts θ i) y) (a.eval y) := fun y hy => by
        cases y with
        | tmp t => exact hslot t (by unfold looks; exact List.mem_append_left _ (List.mem_filterMap.2 ⟨.tmp t, hy, rfl⟩))
        | const v => exact VA.cv x v
        | global g => exact .c _ _ (hR.glob hB g)
        | func f => exact .c _ _ (.clo _ [] #[] (fun _ => undef) rfl (fun i c hc => by simp at hc) (fun i c hc => by simp at hc))
      have hwant : Region.wanted o (yielded ops a.tmps) = true := by unfold Region.wanted; rw [tr.noguard i o ho]
      -- how the walk goes on
      have next : ∀ (θ' : Θ) (hθ : θ' = θ ∨ i = s) (v : Value) (y : Ctx) (O' : Nat → Nat → Prop), x.Le y → Rel B y O' (hp θ' (listed.setIfInBounds i true)) → VA y (val θ' i) v →
          wpAny E.P .any ops Q' fuel (listed.setIfInBounds i true) (a.put o.dst v) y.w := fun θ' hθ v y O' hle hR' hv => by
        have hz := tr.zero θ' θ
        have hget : ∀ k, (listed.setIfInBounds i true).getD k false = true ↔ listed.getD k false = true ∨ k = i := fun k => by
          by_cases e : i = k
          · subst e; simp [hlt]
          · rw [getD_set_ne false e]; exact ⟨.inl, fun h => h.resolve_right (fun h => e h.symm)⟩
        have hput : ∀ t, (a.put o.dst v).tmps.getD t undef = if o.dst = some t ∧ t < a.tmps.size then v else a.tmps.getD t undef := fun t => by
          cases hdst : o.dst with
          | none => simp [Act.put]
          | some d =>
            simp only [Act.put, Option.some.injEq]
            by_cases e : d = t
            · subst e
              by_cases hd' : d < a.tmps.size
              · simp [hd']
              · simp [hd']
            · simp [Array.getElem?_setIfInBounds_ne e, e]
        refine ih θ' _ _ y O' (by simpa using hsz) ?_ (fun k p hk hp j hj => ?_) hR' (by cases hdst : o.dst <;> simp [Act.put, hd]) (by rw [hz]; cases hdst : o.dst <;> simp [Act.put, hts]) (fun k p hk hp t hdt ht => ?_) (fun t ht hn => ?_)
        · have hfil : ((List.range ops.size).filter fun k => !(listed.setIfInBounds i true).getD k true) = ((List.range ops.size).filter fun k => !listed.getD k true).filter fun k => k != i := by
            rw [List.filter_filter]
            refine List.filter_congr fun k hk => ?_
            by_cases e : i = k
            · subst e; simp [hlt]
            · rw [getD_set_ne true e]
              have : (k != i) = true := by simpa using fun h => e h.symm
              simp [this]
          rw [hfil]
          have hnd : ((List.range ops.size).filter fun k => !listed.getD k true).Nodup := List.Pairwise.filter _ List.nodup_range
          have hmem : i ∈ (List.range ops.size).filter fun k => !listed.getD k true := by
            rw [List.mem_filter, List.mem_range]
            exact ⟨hin, by simpa using hun⟩
          have := List.Nodup.erase_eq_filter hnd i
          have hle := List.length_erase_of_mem hmem
          rw [this, hcount] at hle
          simpa using hle
        · rw [hget] at hk ⊢
          rcases hk with hk | rfl
          · exact .inl (hcl k p hk hp j hj)
          · rw [ho] at hp; cases hp; exact .inl (hbl j hj)
        · rw [hget] at hk
          rw [hput]
          rcases hk with hk | rfl
          · have hne : k ≠ i := fun e => by subst e; rw [hunf] at hk; cases hk
            have : o.dst ≠ some t := fun hdo => hrg.dist i k o p hol (by simpa using hp) (fun h => hne h.symm) t hdo hdt
            rw [if_neg (fun h => this h.1)]
            have e : val θ' k = val θ k := by
              rcases hθ with rfl | rfl
              · rfl
              · exact tr.same _ _ k hne
            rw [e]
            exact (h1 k p hk hp t hdt (by rw [← hz]; exact ht)).mono hle
          · rw [ho] at hp
            cases hp
            have hc : o.dst = some t ∧ t < a.tmps.size := ⟨hdt, by rw [hts, ← hz]; exact ht⟩
            rw [if_pos hc]
            exact hv
        · have hne : o.dst ≠ some t := hn i o ((hget i).2 (.inr rfl)) ho
          rw [hput, if_neg (fun h => hne h.1)]
          rw [hz]; exact (h2 t (by rw [← hz]; exact ht) (fun k p hk hp => hn k p ((hget k).2 (.inl hk)) hp)).mono hle
      unfold wpOp
      rw [ho]
      simp only []
      rw [hwant]
      simp only [if_true]
      left
      by_cases hs : i = s
      · subst hs
        exact tr.runs θ listed o hsz ho hunf hbl hcl B x O a _ _ hB hR hd (by rw [tr.length θ i (by omega)]; exact hts) hops (fun θ' v' y O' hle hR' hv => next θ' (.inr rfl) v' y O' hle hR' hv)
      · exact tr.run θ listed i o hsz ho hs hunf hbl hcl B x O a _ _ hB hR hd (by rw [tr.length θ i (by omega)]; exact hts) hops (fun v' y O' hle hR' hv => next θ (.inl rfl) v' y O' hle hR' hv)
end
def NOps (E : Env) (s j : Nat) (H : Heap) (r : Nat) (S J : List A → Oper → Prop) : Nat → List Oper → List A → Prop
  | _, [], _ => True
  | k, o :: l, T => o.guard = none ∧ ∃ v, (k = s ∧ v = .any ∧ S T o ∧ NOps E s j H r S J (k + 1) l (putT T o.dst v)) ∨ (k = j ∧ v = .und ∧ J T o ∧ NOps E s j H r S J (k + 1) l (putT T o.dst v)) ∨ (k ≠ s ∧ k ≠ j ∧ (∀ bb : Option Blk, OpY E T (H.set r bb) o v (H.set r bb)) ∧ NOps E s j H r S J (k + 1) l (putT T o.dst v))
def NStep (E : Env) (s j : Nat) (H : Heap) (r : Nat) (S J : List A → Oper → Prop) (val : Nat → A) (Ts : Nat → List A) (i : Nat) (o : Oper) : Prop :=
  o.guard = none ∧ Ts (i + 1) = putT (Ts i) o.dst (val i) ∧ ((i = s ∧ val i = .any ∧ S (Ts i) o) ∨ (i = j ∧ val i = .und ∧ J (Ts i) o) ∨ (i ≠ s ∧ i ≠ j ∧ (∀ bb : Option Blk, OpY E (Ts i) (H.set r bb) o (val i) (H.set r bb))))
theorem NOps.trace {E : Env} {s j : Nat} {H : Heap} {r : Nat} {S J : List A → Oper → Prop} {ops : Array Oper} : ∀ (l : List Oper) (k : Nat) (T : List A), ops.toList.drop k = l → k ≤ ops.size → NOps E s j H r S J k l T →
    ∃ (val : Nat → A) (Ts : Nat → List A), Ts k = T ∧ ∀ (i : Nat) o, k ≤ i → ops[i]? = some o → NStep E s j H r S J val Ts i o
  | [], k, T, hl, hk, h => by
    have hk : ops.size ≤ k := by
      have := List.drop_eq_nil_iff.1 hl
      simpa using this
    refine ⟨fun _ => .und, fun _ => T, rfl, fun i o hi ho => ?_⟩
    have := (Array.getElem?_eq_some_iff.1 ho).1
    omega
  | o :: l, k, T, hl, hk, h => by
    have hlt : k < ops.toList.length := by
      rcases Nat.lt_or_ge k ops.toList.length with h' | h'
      · exact h'
      · rw [List.drop_eq_nil_of_le h'] at hl; cases hl
    rw [List.drop_eq_getElem_cons hlt] at hl
    have ho : ops[k]? = some o := by
      have : ops.toList[k] = o := (List.cons.inj hl).1
      rw [← Array.getElem?_toList, List.getElem?_eq_getElem hlt, this]
    have hl' : ops.toList.drop (k + 1) = l := (List.cons.inj hl).2
    have hks : k + 1 ≤ ops.size := (show k < ops.size by simpa using hlt)
    obtain ⟨hg, v, h⟩ := h
    have go : NOps E s j H r S J (k + 1) l (putT T o.dst v) → ((k = s ∧ v = .any ∧ S T o) ∨ (k = j ∧ v = .und ∧ J T o) ∨ (k ≠ s ∧ k ≠ j ∧ (∀ bb : Option Blk, OpY E T (H.set r bb) o v (H.set r bb)))) → ∃ (val : Nat → A) (Ts : Nat → List A), Ts k = T ∧ ∀ (i : Nat) o, k ≤ i → ops[i]? = some o → NStep E s j H r S J val Ts i o := fun hrest hst => by
      obtain ⟨val, Ts, t1, t5⟩ := NOps.trace l (k + 1) _ hl' hks hrest
      refine ⟨fun i => if i = k then v else val i, fun i => if i = k then T else Ts i, by simp, fun i p hi hp => ?_⟩
      unfold NStep
      by_cases e : i = k
      · subst e
        rw [ho] at hp
        cases hp
        simp only [if_pos, if_neg (show i + 1 ≠ i by omega)]
        exact ⟨hg, t1, hst⟩
      · simp only [if_neg e, if_neg (show i + 1 ≠ k by omega)]
        exact t5 i p (by omega) hp
    rcases h with ⟨e, e2, hs, hrest⟩ | ⟨e, e2, hs, hrest⟩ | ⟨h1, h2, hp, hrest⟩
    · exact go hrest (.inl ⟨e, e2, hs⟩)
    · exact go hrest (.inr (.inl ⟨e, e2, hs⟩))
    · exact go hrest (.inr (.inr ⟨h1, h2, hp⟩))
theorem putT_same (T : List A) (d : Option Nat) (u v : A) : putT (putT T d u) d v = putT T d v := by
  cases d with
  | none => rfl
  | some d => simp [putT, pT_eq]
theorem putT_comm (T : List A) {d e : Option Nat} (u v : A) (h : ∀ t, d = some t → e ≠ some t) : putT (putT T d u) e v = putT (putT T e v) d u := by
  cases d with
  | none => rfl
  | some d =>
    cases e with
    | none => rfl
    | some e => simp only [putT, pT_eq]; exact List.set_comm _ _ (fun he => h d rfl (by rw [he]))
theorem OpY.weak {E : Env} {T : List A} {H : Heap} {o : Oper} {v : A} {H' : Heap} (d : Option Nat) (u : A) (ha : ∀ t, d = some t → t < T.length → gT T t = .any) (h : OpY E T H o v H') : OpY E (putT T d u) H o v H' := by
  intro B x O a K Q hB hR hd hs hop hk
  refine h B x O a K Q hB hR hd (by rw [hs, putT_length]) (fun y hy => ?_) hk
  have h1 := hop y hy
  cases y with
  | tmp t =>
    by_cases e : d = some t ∧ t < T.length
    · have h2 : ev E T (.tmp t) = .any := ha t e.1 e.2
      rw [h2]; exact .any _
    · have h2 : ev E (putT T d u) (.tmp t) = ev E T (.tmp t) := by
        show gT (putT T d u) t = gT T t
        rw [get_putT, if_neg e]
      rw [← h2]; exact h1
  | const c => exact h1
  | global g => exact h1
  | func f => exact h1
section
variable {Θ : Type} [Inhabited Θ] {E : Env} {ops : Array Oper}
theorem awp_drawN {T : List A} {H : Heap} {Q : Exit → List A → Heap → Prop} {m id : Nat} (s j r : Nat) (ds : Option Nat) (vs : Θ → A) (b : Θ → Blk) (H2 : Θ → Heap) (hsj : s < j) (hj : j + 1 = ops.size)
    (hds : (match ops[s]? with | some o => o.dst == ds | none => false) = true) (hall : ((List.range j).all fun k => ((ancs ops.toList).getD j []).contains k) = true)
    (hrg : rgOk ops.toList (ops.toList.map fun _ => false) (ops.toList.map fun _ => false) = true)
    (hrl : r < H.length) (h : NOps E s j H r (fun T o => OpN E T H o vs (fun θ => H.set r (some (b θ)))) (fun T o => ∀ θ, OpY E (putT T ds (vs θ)) (H.set r (some (b θ))) o .und (H2 θ) ∧ Q .normal (putT (putT T ds (vs θ)) o.dst .und) (H2 θ)) 0 ops.toList T) : AWP E (.region id ops true) T H Q m := by
  intro B a w hB hm hs
  obtain ⟨hdf, x, O, rfl, hR, hT⟩ := hs
  have hrr := RgOk.of hrg
  obtain ⟨v, Ts, q1, q5⟩ := NOps.trace (ops := ops) ops.toList 0 T (by simp) (Nat.zero_le _) h
  have hsz : s < ops.size := by omega
  have hjz : j < ops.size := by omega
  have hos : ops[s]? = some ops[s] := Array.getElem?_eq_getElem hsz
  have hoj : ops[j]? = some ops[j] := Array.getElem?_eq_getElem hjz
  have hdst : (ops[s]).dst = ds := by rw [hos] at hds; simpa using hds
  have hanc : ∀ L : Array Bool, Clo ops L → (∀ k, k ∈ bindsOf ops[j] → L.getD k false = true) → ∀ k, k < j → L.getD k false = true := fun L hcl hb k hk => by
    have hmem : k ∈ (ancs ops.toList).getD j [] := by
      have := List.all_eq_true.1 hall k (List.mem_range.2 hk)
      simpa using this
    have := anc_closed (ops := ops.toList) (L := fun k => L.getD k false = true ∨ k = j) (fun k p hk hp j' hj' => by
      rcases hk with hk | rfl
      · exact .inl (hcl k p hk (by simpa using hp) j' hj')
      · have : p = ops[k] := by have h3 : ops[k]? = some p := by simpa using hp
                                rw [hoj] at h3; exact (Option.some.inj h3).symm
        subst this; exact .inl (hb j' hj')) j ops[j] (by simpa using hoj) (.inr rfl) k hmem
    exact this.resolve_right (by omega)
  have hclj : ∀ L : Array Bool, Clo ops L → L.getD j false = true → ∀ k, k < j → L.getD k false = true := fun L hcl hjl k hk => hanc L hcl (fun k' hk' => hcl j _ hjl hoj k' hk') k hk
  let hp : Θ → Array Bool → Heap := fun θ L => if L.getD j false = true then H2 θ else if L.getD s false = true then H.set r (some (b θ)) else H
  let val : Θ → Nat → A := fun θ i => if i = s then vs θ else v i
  let TT : Θ → Nat → List A := fun θ i => if i ≤ s then Ts i else putT (Ts i) ds (vs θ)
  have hlenT : ∀ i, i ≤ ops.size → (Ts i).length = T.length := by
    intro i
    induction i with
    | zero => intro _; rw [q1]
    | succ i ih =>
      intro hi
      rw [(q5 i _ (Nat.zero_le _) (Array.getElem?_eq_getElem (by omega))).2.1, putT_length]
      exact ih (by omega)
  -- the slot stays unknown
  have hany : ∀ i, s < i → i ≤ ops.size → ∀ t, ds = some t → t < (Ts i).length → gT (Ts i) t = .any := by
    intro i
    induction i with
    | zero => intro h; omega
    | succ i ih =>
      intro hsi hi t hdt hlt
      have hoi : ops[i]? = some ops[i] := Array.getElem?_eq_getElem (by omega)
      obtain ⟨_, e1, e2⟩ := q5 i _ (Nat.zero_le _) hoi
      rw [e1, get_putT]
      rw [e1, putT_length] at hlt
      by_cases e : i = s
      · subst e
        rw [if_pos ⟨hdst.trans hdt, hlt⟩]
        rcases e2 with ⟨_, e3, _⟩ | ⟨e3, _⟩ | ⟨e3, _⟩
        · exact e3
        · omega
        · exact absurd rfl e3
      · rw [if_neg (fun h => hrr.dist i s _ _ (by simpa using hoi) (by simpa using hos) e t h.1 (hdst.trans hdt))]
        exact ih (by omega) (by omega) t hdt hlt
  have hget : ∀ (L : Array Bool) (i k : Nat), L.size = ops.size → i < ops.size → (L.setIfInBounds i true).getD k false = if k = i then true else L.getD k false := fun L i k hL hlt => by
    by_cases e : k = i
    · subst e; simp [hL, hlt]
    · rw [if_neg e, getD_set_ne false (fun h => e h.symm)]
  have tr : TrN E ops s val hp TT := {
    noguard := fun i o ho => (q5 i o (Nat.zero_le _) ho).1
    step := fun θ i o ho => by
      obtain ⟨_, e1, e2⟩ := q5 i o (Nat.zero_le _) ho
      show (if i + 1 ≤ s then Ts (i + 1) else putT (Ts (i + 1)) ds (vs θ)) = putT (if i ≤ s then Ts i else putT (Ts i) ds (vs θ)) o.dst (if i = s then vs θ else v i)
      by_cases h1 : i + 1 ≤ s
      · rw [if_pos h1, if_pos (by omega), if_neg (by omega), e1]
      · rw [if_neg h1]
        by_cases h2 : i = s
        · subst h2
          rw [hos] at ho; cases ho
          rw [if_pos (Nat.le_refl _), if_pos rfl, e1, hdst, putT_same]
        · rw [if_neg (by omega), if_neg h2, e1]
          exact putT_comm _ _ _ (fun t ht hd => hrr.dist i s _ _ (by simpa using ho) (by simpa using hos) h2 t ht (hdst.trans hd))
    zero := fun θ θ' => rfl
    same := fun θ θ' i hi => by show (if i = s then vs θ else v i) = (if i = s then vs θ' else v i); rw [if_neg hi, if_neg hi]
    runs := fun θ L o hL ho hun hbl hcl => by
      obtain ⟨_, _, e2⟩ := q5 s o (Nat.zero_le _) ho
      have hjf : L.getD j false = false := by
        cases hh : L.getD j false with
        | false => rfl
        | true => have := hclj L hcl hh s hsj; rw [hun] at this; cases this
      rcases e2 with ⟨_, _, e3⟩ | ⟨e3, _⟩ | ⟨e3, _⟩
      · have w1 : TT θ s = Ts s := if_pos (Nat.le_refl _)
        have w2 : hp θ L = H := by show (if L.getD j false = true then H2 θ else if L.getD s false = true then H.set r (some (b θ)) else H) = H; rw [hjf, hun]; rfl
        rw [w1, w2]
        intro B x O a K Q hB hR hd hs hop hk
        refine e3 B x O a K Q hB hR hd hs hop (fun θ' v' x' O' hx hR' hv => hk θ' v' x' O' hx ?_ ?_)
        · show Rel B x' O' (if (L.setIfInBounds s true).getD j false = true then H2 θ' else if (L.setIfInBounds s true).getD s false = true then H.set r (some (b θ')) else H)
          rw [hget L s j hL hsz, hget L s s hL hsz, if_neg (show ¬ j = s by omega), hjf, if_pos rfl]
          exact hR'
        · show VA x' (if s = s then vs θ' else v s) v'
          rw [if_pos rfl]; exact hv
      · omega
      · exact absurd rfl e3
    run := fun θ L i o hL ho hne hun hbl hcl => by
      have hin : i < ops.size := (Array.getElem?_eq_some_iff.1 ho).1
      obtain ⟨_, _, e2⟩ := q5 i o (Nat.zero_le _) ho
      have vi : val θ i = v i := if_neg hne
      rw [vi]
      rcases e2 with ⟨e3, _⟩ | ⟨rfl, e4, e3⟩ | ⟨_, e3, e4⟩
      · exact absurd e3 hne
      · rw [hoj] at ho; cases ho
        have hsl := hanc L hcl hbl s hsj
        have w1 : TT θ i = putT (Ts i) ds (vs θ) := if_neg (by omega)
        have w2 : hp θ L = H.set r (some (b θ)) := by show (if L.getD i false = true then H2 θ else if L.getD s false = true then H.set r (some (b θ)) else H) = _; rw [hun, hsl]; rfl
        have w3 : hp θ (L.setIfInBounds i true) = H2 θ := by show (if (L.setIfInBounds i true).getD i false = true then H2 θ else _) = _; rw [hget L i i hL hin, if_pos rfl, if_pos rfl]
        rw [w1, w2, w3, e4]
        exact (e3 θ).1
      · have hjf : L.getD j false = false := by
          cases hh : L.getD j false with
          | false => rfl
          | true => have := hclj L hcl hh i (by omega); rw [hun] at this; cases this
        have w3 : hp θ (L.setIfInBounds i true) = hp θ L := by
          show (if (L.setIfInBounds i true).getD j false = true then H2 θ else if (L.setIfInBounds i true).getD s false = true then H.set r (some (b θ)) else H) = (if L.getD j false = true then H2 θ else if L.getD s false = true then H.set r (some (b θ)) else H)
          rw [hget L i j hL hin, hget L i s hL hin, if_neg (Ne.symm e3), if_neg (Ne.symm hne)]
        rw [w3]
        have base : OpY E (Ts i) (hp θ L) o (v i) (hp θ L) := by
          have w4 : hp θ L = H.set r (if L.getD s false = true then some (b θ) else H[r]) := by
            show (if L.getD j false = true then H2 θ else if L.getD s false = true then H.set r (some (b θ)) else H) = _
            rw [hjf]; simp only [Bool.false_eq_true, if_false]
            split
            · rfl
            · exact (List.set_getElem_self hrl).symm
          rw [w4]
          exact e4 _
        by_cases hi : i ≤ s
        · have w1 : TT θ i = Ts i := if_pos hi
          rw [w1]; exact base
        · have w1 : TT θ i = putT (Ts i) ds (vs θ) := if_neg hi
          rw [w1]
          exact base.weak ds (vs θ) (fun t ht hlt => hany i (by omega) (by omega) t ht hlt) }
  refine wp_region_any E.hmix ?_
  let y : Ctx := { w := x.w.drew, F := x.F, μ := x.μ, N := x.N, L := x.L }
  have hxy : x.Le y := ⟨fun k hk => ⟨hk, rfl⟩, Nat.le_refl _, Nat.le_refl _, fun id _ s m hm => ⟨m, hm, Nat.le_refl _, fun _ => ⟨rfl, fun _ _ _ => rfl⟩⟩⟩
  have hRy : Rel B y O H := ⟨hR.hL, hR.hN, hR.le.trans hxy, hR.os, hR.tape, hR.output, hR.keep, hR.own, hR.fr, hR.disj, hR.nof, fun id b hb => (hR.blk id b hb).mono hxy rfl (fun _ h => h) (fun _ _ => rfl)⟩
  have hTy := hT.mono hxy
  have hrep : ∀ i, (Array.replicate ops.size false).getD i false = false := fun i => by
    rw [Array.getD_eq_getD_getElem?, Array.getElem?_replicate]
    split <;> rfl
  have h00 : ∀ θ, hp θ (Array.replicate ops.size false) = H := fun θ => by
    show (if _ then _ else if _ then _ else _) = _
    rw [hrep, hrep]; simp
  have hfin : ∀ θ (L : Array Bool), L.size = ops.size → (∀ i, i < ops.size → L.getD i false = true) → hp θ L = H2 θ := fun θ L hL hall => by
    show (if _ then _ else _) = _
    rw [hall j hjz]; simp
  have hend : ∀ θ, Q .normal (TT θ ops.size) (H2 θ) := fun θ => by
    obtain ⟨_, e1, e2⟩ := q5 j _ (Nat.zero_le _) hoj
    have hstep := tr.step θ j _ hoj
    rcases e2 with ⟨e3, _⟩ | ⟨_, e4, e3⟩ | ⟨_, e3, _⟩
    · omega
    · have w1 : TT θ j = putT (Ts j) ds (vs θ) := if_neg (by omega)
      have w2 : val θ j = .und := by show (if j = s then vs θ else v j) = _; rw [if_neg (by omega), e4]
      rw [← hj, hstep, w1, w2]
      exact (e3 θ).2
    · exact absurd rfl e3
  have hT0 : ∀ θ, TT θ 0 = T := fun θ => by show (if 0 ≤ s then Ts 0 else _) = T; rw [if_pos (Nat.zero_le _), q1]
  refine tr.any hrr hfin hB (fun θ a' w' hs' => ⟨TT θ ops.size, _, hend θ, hs'⟩) ops.size default (Array.replicate ops.size false) a y O (by simp) ?_ (fun i o hi => by rw [hrep] at hi; cases hi) (by rw [h00]; exact hRy) hdf (by rw [hT0]; exact hTy.1) (fun i o hi => by rw [hrep] at hi; cases hi) (fun t ht hn => ?_)
  · have : ((List.range ops.size).filter fun i => !(Array.replicate ops.size false).getD i true) = List.range ops.size := by
      rw [List.filter_eq_self]
      intro i hi
      rw [List.mem_range] at hi
      simp [hi]
    rw [this, List.length_range]
  · rw [hT0]
    exact hTy.get t
theorem gn_p {s j k : Nat} {H : Heap} {r : Nat} {S J : List A → Oper → Prop} {l : List Oper} {o : Oper} {T : List A} {v : A} (ha : ∀ bb : Option Blk, aopW false E T (H.set r bb) o.op = some (v, H.set r bb)) (hg : o.guard = none) (hk : k ≠ s ∧ k ≠ j)
    (h : NOps E s j H r S J (k + 1) l (putT T o.dst v)) : NOps E s j H r S J k (o :: l) T := ⟨hg, v, .inr (.inr ⟨hk.1, hk.2, fun bb => aopW_y (ha bb), h⟩)⟩
theorem gn_c {s j k : Nat} {H : Heap} {r : Nat} {S J : List A → Oper → Prop} {l : List Oper} {o : Oper} {T : List A} {v : A} (sel : List Nat) {f : FuncId} {rl : A} {args al : List A} {Hl : Heap} {fo : Operand} {as : Array Operand} {caps : List C}
    (hf : AFn E f al Hl rl Hl) (ho : opIs o fo as) (hfo : ev E T fo = .c (.clo (.func f) caps)) (hargs : as.toList.map (ev E T) ++ caps.map .c = args) (hl : invAs sel args = some al) (hh : ∀ bb : Option Blk, invH sel (H.set r bb) sel = some Hl) (hc : chk sel H.length = true)
    (hv : renA (gl sel H.length) rl = v) (hg : o.guard = none) (hk : k ≠ s ∧ k ≠ j) (h : NOps E s j H r S J (k + 1) l (putT T o.dst v)) : NOps E s j H r S J k (o :: l) T :=
  ⟨hg, v, .inr (.inr ⟨hk.1, hk.2, fun bb => by
    have := dcallR (E := E) (na := false) (hd := []) (T := T) (H := H.set r bb) (o := o) (K := fun v' H' => v' = v) sel ho hfo hargs hl (hh bb) (by rw [List.length_set]; exact hc) ⟨rl, hf, by rw [List.length_set]; exact hv⟩
    obtain ⟨v', h1, h2⟩ := this
    rw [h2] at h1; exact h1, h⟩)⟩
theorem gn_s {s j k : Nat} {H : Heap} {r : Nat} {S J : List A → Oper → Prop} {l : List Oper} {o : Oper} {T : List A} (hk : k = s) (hg : o.guard = none) (hs : S T o) (h : NOps E s j H r S J (k + 1) l (putT T o.dst .any)) : NOps E s j H r S J k (o :: l) T :=
  ⟨hg, .any, .inl ⟨hk, rfl, hs, h⟩⟩
theorem gn_j {s j k : Nat} {H : Heap} {r : Nat} {S J : List A → Oper → Prop} {o : Oper} {T : List A} (hk : k = j) (hg : o.guard = none) (hs : J T o) : NOps E s j H r S J k [o] T :=
  ⟨hg, .und, .inr (.inl ⟨hk, rfl, hs, trivial⟩)⟩
end
end Go.Eng
