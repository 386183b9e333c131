/- The words of a machine on plain data, and that the program does what this machine does. -/
import Derived.Test.YtmamiagddgldkaaDoorEc
import Derived.Orders
namespace Go.Eng
open Go.RowKit
set_option linter.unusedVariables false
set_option linter.unusedSimpArgs false
set_option linter.unnecessarySimpa false

theorem wantA_ok' {x : Ctx} {T : List A} {tmps : Array Value} {ops : Array Oper} {o : Oper} {b : Bool} (hT : ∀ j w d, o.guard = some (j, w) → dstOf (dsts ops.toList) j = some d → VA x (gT T d) (tmps.getD d undef)) (h : wantA (dsts ops.toList) T o.guard = some b) :
    Region.wanted o (yielded ops tmps) = b := by
  unfold wantA at h
  unfold Region.wanted
  split at h
  · rename_i hg; rw [hg]; cases h; rfl
  · rename_i j w hg
    rw [hg]
    split at h
    · rename_i d hd
      have hget := hT j w d hg hd
      rw [dstOf_eq, Array.getElem?_toList] at hd
      show (yielded ops tmps j == some w) = b
      unfold yielded
      rw [hd]
      simp only [Option.bind_some]
      unfold truth at h
      split at h
      · rename_i bb heq
        cases h
        rw [heq] at hget
        have hv : tmps.getD d undef = .bool bb := by
          generalize tmps.getD d undef = u at hget
          cases hget with | c _ _ hh => cases hh with | d _ _ hh => cases hh with | sc _ _ => rfl
        have hlt : tmps[d]? = some (.bool bb) := by
          rw [Array.getD_eq_getD_getElem?] at hv
          cases hq : tmps[d]? with
          | none => rw [hq] at hv; cases hv
          | some u => rw [hq] at hv; simp at hv; rw [hv]
        rw [hlt]
        simp [eqW_eq]
      · rename_i heq
        cases h
        rw [heq] at hget
        have hv : tmps.getD d undef = undef := by
          generalize tmps.getD d undef = u at hget
          cases hget; rfl
        rw [Array.getD_eq_getD_getElem?] at hv
        cases hq : tmps[d]? with
        | none => rfl
        | some u => rw [hq] at hv; simp at hv; rw [hv]; rfl
      · cases h
    · cases h

section
variable {E : Env} {ops : Array Oper} {wr am : List Bool} {val : Nat → A} {want : Nat → Bool} {hp : Nat → Heap} {Ts : Nat → List A}

structure RgOk (ops : Array Oper) (wr am : List Bool) : Prop where
  lt : ∀ (i : Nat) o, ops.toList[i]? = some o → ∀ j, j ∈ bindsOf o → j < i
  gd : ∀ (i : Nat) o j w, ops.toList[i]? = some o → o.guard = some (j, w) → j ∈ (ancs ops.toList).getD i []
  dist : ∀ (i j : Nat) o p, ops.toList[i]? = some o → ops.toList[j]? = some p → i ≠ j → ∀ d, o.dst = some d → p.dst ≠ some d
  look : ∀ (i j : Nat) o p, ops.toList[i]? = some o → ops.toList[j]? = some p → i ≠ j → ∀ d, p.dst = some d → d ∈ looks ops.toList o → j ∈ (ancs ops.toList).getD i [] ∨ i ∈ (ancs ops.toList).getD j []
  wrs : ∀ (i j : Nat), i < ops.size → j < ops.size → i ≠ j → wr.getD i false = true → wr.getD j false = true → j ∈ (ancs ops.toList).getD i [] ∨ i ∈ (ancs ops.toList).getD j []
  pl : ∀ (i j : Nat), i < ops.size → j < ops.size → i ≠ j → wr.getD i false = false → wr.getD j false = true → am.getD i false = false → j ∈ (ancs ops.toList).getD i [] ∨ i ∈ (ancs ops.toList).getD j []
  fin : ∀ (i j : Nat), i < ops.size → j < ops.size → i ≠ j → wr.getD i false = false → wr.getD j false = true → am.getD i false = true → am.getD j false = true → i ∈ (ancs ops.toList).getD j []

theorem RgOk.of (h : rgOk ops.toList wr am = true) : RgOk ops wr am := by
  unfold rgOk at h
  simp only [List.all_eq_true, List.mem_range] at h
  have key : ∀ (i : Nat) o, ops.toList[i]? = some o → _ := fun i o ho => by
    have hlt : i < ops.toList.length := (List.getElem?_eq_some_iff.1 ho).1
    have h1 := h i hlt
    rw [ho] at h1
    simp only [Bool.and_eq_true, List.all_eq_true, List.mem_range] at h1
    exact h1
  have pair : ∀ (i j : Nat) o p, ops.toList[i]? = some o → ops.toList[j]? = some p → i ≠ j → _ := fun i j o p ho hp hne => by
    have h1 := (key i o ho).2 j (List.getElem?_eq_some_iff.1 hp).1
    have hne' : (i == j) = false := by simpa using hne
    simp only [hp, hne', Bool.false_or, Bool.and_eq_true] at h1
    exact h1
  refine ⟨fun i o ho j hj => ?_, fun i o j w ho hg => ?_, fun i j o p ho hp hne d hd he => ?_, fun i j o p ho hp hne d hd hl => ?_, fun i j hi hj hne h1 h2 => ?_, fun i j hi hj hne h1 h2 h3 => ?_, fun i j hi hj hne h1 h2 h3 h4 => ?_⟩
  · have := (key i o ho).1.1 j hj
    simpa using this
  · have := (key i o ho).1.2
    rw [hg] at this
    simpa using this
  · have := (pair i j o p ho hp hne).1.1.1.1
    rw [hd, he] at this
    simp at this
  · have := (pair i j o p ho hp hne).1.1.1.2
    rw [hd] at this
    simp only [Bool.or_eq_true, Bool.not_eq_true', List.contains_iff_mem] at this
    rcases this with (h1 | h1) | h1
    · have := List.contains_iff_mem.2 hl
      rw [h1] at this; cases this
    · exact .inl h1
    · exact .inr h1
  · have ho : ops.toList[i]? = some ops[i] := by simp [hi]
    have hp : ops.toList[j]? = some ops[j] := by simp [hj]
    have := (pair i j _ _ ho hp hne).1.1.2
    rw [h1, h2] at this
    simp only [Bool.not_true, Bool.false_or, Bool.or_eq_true, List.contains_iff_mem] at this
    exact this
  · have ho : ops.toList[i]? = some ops[i] := by simp [hi]
    have hp : ops.toList[j]? = some ops[j] := by simp [hj]
    have := (pair i j _ _ ho hp hne).1.2
    rw [h1, h2, h3] at this
    simp only [Bool.not_true, Bool.false_or, Bool.or_eq_true, List.contains_iff_mem] at this
    exact this
  · have ho : ops.toList[i]? = some ops[i] := by simp [hi]
    have hp : ops.toList[j]? = some ops[j] := by simp [hj]
    have := (pair i j _ _ ho hp hne).2
    rw [h1, h2, h3, h4] at this
    simp only [Bool.not_true, Bool.false_or, List.contains_iff_mem] at this
    exact this

theorem get_putT {T : List A} {dst : Option Nat} {v : A} {t : Nat} : gT (putT T dst v) t = if dst = some t ∧ t < T.length then v else gT T t := by
  cases dst with
  | none => simp [putT]
  | some d =>
    simp only [putT, gT_eq, pT_eq, List.getElem?_set, Option.some.injEq]
    by_cases e : d = t
    · subst e
      by_cases h : d < T.length
      · simp [h]
      · simp [h]
    · simp [e]

theorem putT_length {T : List A} {dst : Option Nat} {v : A} : (putT T dst v).length = T.length := by cases dst <;> simp [putT, pT_length]

theorem Trace.length (tr : Trace E ops wr val want hp Ts) : ∀ i, i ≤ ops.size → (Ts i).length = (Ts 0).length
  | 0, _ => rfl
  | i + 1, h => by
    have ho : ops[i]? = some ops[i] := Array.getElem?_eq_getElem (by omega)
    rw [tr.step i _ ho, putT_length]
    exact Trace.length tr i (by omega)

theorem Trace.slot (hrg : RgOk ops wr am) (tr : Trace E ops wr val want hp Ts) {t : Nat} (ht : t < (Ts 0).length) : ∀ i, i ≤ ops.size →
    (∀ j o, j < i → ops[j]? = some o → o.dst = some t → gT (Ts i) t = val j) ∧ ((∀ j o, j < i → ops[j]? = some o → o.dst ≠ some t) → gT (Ts i) t = gT (Ts 0) t)
  | 0, _ => ⟨fun j o h => by omega, fun _ => rfl⟩
  | i + 1, h => by
    obtain ⟨h1, h2⟩ := Trace.slot hrg tr ht i (by omega)
    have ho : ops[i]? = some ops[i] := Array.getElem?_eq_getElem (by omega)
    have hlen := tr.length i (by omega)
    rw [tr.step i _ ho]
    refine ⟨fun j o hj hoj hd => ?_, fun hn => ?_⟩
    · rw [get_putT]
      by_cases e : j = i
      · subst e
        rw [ho] at hoj
        cases hoj
        rw [if_pos ⟨hd, by rw [hlen]; exact ht⟩]
      · have hne : (ops[i]).dst ≠ some t := fun hdi => hrg.dist j i o _ (by simpa using hoj) (by simpa using ho) e t hd hdi
        rw [if_neg (fun h => hne h.1)]
        exact h1 j o (by omega) hoj hd
    · rw [get_putT, if_neg (fun h => hn i _ (by omega) ho h.1)]
      exact h2 (fun j o hj hoj => hn j o (by omega) hoj)

theorem Trace.hpEq (tr : Trace E ops wr val want hp Ts) {q : Nat} : ∀ i, q ≤ i → i ≤ ops.size → (∀ k, q ≤ k → k < i → wr.getD k false = false) → hp i = hp q
  | 0, h, _, _ => by have : q = 0 := by omega
                     rw [this]
  | i + 1, h, hi, hn => by
    by_cases e : q = i + 1
    · rw [e]
    · have ho : ops[i]? = some ops[i] := Array.getElem?_eq_getElem (by omega)
      rw [tr.still i _ ho (hn i (by omega) (by omega))]
      exact Trace.hpEq tr i (by omega) (by omega) (fun k h1 h2 => hn k h1 (by omega))

theorem Trace.any (hrg : RgOk ops wr am) (tr : Trace E ops wr val want hp Ts) {B : Base} (hB : B.ok E) {Q' : Exit → Act → World → Prop} (hQ : ∀ a w, SR B (Ts ops.size) (hp ops.size) a w → Q' .normal a w) :
    ∀ (fuel : Nat) (listed : Array Bool) (a : Act) (x : Ctx) (O : Nat → Nat → Prop) (q : Nat), listed.size = ops.size → ((List.range ops.size).filter fun i => !listed.getD i true).length = fuel →
      (∀ (i : Nat) o, listed.getD i false = true → ops[i]? = some o → ∀ j, j ∈ bindsOf o → listed.getD j false = true) → q ≤ ops.size →
      (∀ i, i < ops.size → wr.getD i false = true → (listed.getD i false = true ↔ i < q)) → Rel B x O (hp q) → a.defers = [] → a.tmps.size = (Ts 0).length →
      (∀ (i : Nat) o, listed.getD i false = true → ops[i]? = some o → ∀ t, o.dst = some t → t < (Ts 0).length → VA x (val i) (a.tmps.getD t undef)) →
      (∀ t, t < (Ts 0).length → (∀ (i : Nat) o, listed.getD i false = true → ops[i]? = some o → o.dst ≠ some t) → VA x (gT (Ts 0) t) (a.tmps.getD t undef)) →
      wpAny E.P .any ops Q' fuel listed a x.w := by
  intro fuel
  induction fuel with
  | zero =>
    intro listed a x O q hsz hcount hcl hq hwr hR hd hts h1 h2
    have hall : ∀ i, i < ops.size → listed.getD i false = true := fun i hi => by
      have hnil := List.length_eq_zero_iff.1 hcount
      have : i ∉ (List.range ops.size).filter fun i => !listed.getD i true := by rw [hnil]; simp
      simp only [List.mem_filter, List.mem_range, hi, true_and, Bool.not_eq_true', Bool.not_eq_false] at this
      have hlt : i < listed.size := by omega
      simpa [hlt] using this
    refine ⟨?_, ?_⟩
    · unfold Region.ready
      rw [List.filter_eq_nil_iff]
      intro i hi
      rw [List.mem_range] at hi
      have := hall i hi
      have hlt : i < listed.size := by omega
      simp [hlt] at this ⊢
      intro h
      rw [this] at h; cases h
    · have hq' : hp ops.size = hp q := tr.hpEq ops.size hq (Nat.le_refl _) (fun k hk1 hk2 => by
        cases hw : wr.getD k false with
        | false => rfl
        | true => have := (hwr k hk2 hw).1 (hall k hk2); omega)
      refine hQ a x.w ⟨hd, x, O, rfl, by rw [hq']; exact hR, by rw [tr.length _ (Nat.le_refl _)]; exact hts, fun t b hb => ?_⟩
      have ht : t < (Ts 0).length := by rw [← tr.length _ (Nat.le_refl _)]; exact (List.getElem?_eq_some_iff.1 hb).1
      have htt : t < a.tmps.size := by omega
      refine ⟨a.tmps.getD t undef, by simp [htt], ?_⟩
      have hgt : gT (Ts ops.size) t = b := by rw [gT_eq, hb]; rfl
      obtain ⟨s1, s2⟩ := tr.slot hrg ht ops.size (Nat.le_refl _)
      by_cases hex : ∃ j o, j < ops.size ∧ ops[j]? = some o ∧ o.dst = some t
      · obtain ⟨j, o, hj, hoj, hdj⟩ := hex
        rw [← hgt, s1 j o hj hoj hdj]
        exact h1 j o (hall j hj) hoj t hdj ht
      · rw [← hgt, s2 (fun j o hj hoj hdj => hex ⟨j, o, hj, hoj, hdj⟩)]
        exact h2 t ht (fun i o hl hoi hdi => hex ⟨i, o, (Array.getElem?_eq_some_iff.1 hoi).1, hoi, hdi⟩)
  | succ fuel ih =>
    intro listed a x O q hsz hcount hcl hq hwr hR hd hts h1 h2
    refine ⟨fun hnil => ?_, fun i hi => ?_⟩
    · exfalso
      -- the first that is not listed may come up
      have hex : ∃ i, i < ops.size ∧ listed.getD i false = false := by
        have : ((List.range ops.size).filter fun i => !listed.getD i true) ≠ [] := fun h => by rw [h] at hcount; simp at hcount
        obtain ⟨i, hi⟩ := List.exists_mem_of_ne_nil _ this
        simp only [List.mem_filter, List.mem_range, Bool.not_eq_true'] at hi
        have hlt : i < listed.size := by omega
        refine ⟨i, hi.1, ?_⟩
        simpa [hlt] using hi.2
      obtain ⟨i, ⟨hi, hun⟩, hmin⟩ := exists_least (p := fun i => i < ops.size ∧ listed.getD i false = false) hex
      have ho : ops[i]? = some ops[i] := by simp [hi]
      have hlt : i < listed.size := by omega
      have : i ∈ Region.ready .any ops listed := by
        rw [mem_ready]
        refine ⟨by simpa [hlt] using hun, ops[i], ho, fun e he hb => ?_⟩
        have hmem : e.on ∈ bindsOf ops[i] := by
          unfold bindsOf
          exact List.mem_map.2 ⟨e, List.mem_filter.2 ⟨by simpa using he, hb⟩, rfl⟩
        have hlt2 := hrg.lt i _ (by simpa using ho) e.on hmem
        cases hl : listed.getD e.on false with
        | true => rfl
        | false => have := hmin e.on ⟨by omega, hl⟩; omega
      rw [hnil] at this
      cases this
    · obtain ⟨hun, o, ho, hall⟩ := mem_ready.1 hi
      have hin : i < ops.size := (Array.getElem?_eq_some_iff.1 ho).1
      have hlt : i < listed.size := by omega
      have hunf : listed.getD i false = false := by simpa [hlt] using hun
      have hol : ops.toList[i]? = some o := by simpa using ho
      have hbl : ∀ j, j ∈ bindsOf o → listed.getD j false = true := fun j hj => by
        unfold bindsOf at hj
        obtain ⟨e, he, rfl⟩ := List.mem_map.1 hj
        rw [List.mem_filter] at he
        exact hall e (by simpa using he.1) he.2
      have hanc : ∀ j, j ∈ (ancs ops.toList).getD i [] → listed.getD j false = true := fun j hj => by
        have hji := anc_lt hrg.lt i o hol j hj
        have := anc_closed (ops := ops.toList) (L := fun k => listed.getD k false = true ∨ k = i) (fun k p hk hp j hj => by
          rcases hk with hk | rfl
          · exact .inl (hcl k p hk (by simpa using hp) j hj)
          · rw [hol] at hp; cases hp; exact .inl (hbl j hj)) i o hol (.inr rfl) j hj
        exact this.resolve_right (by omega)
      have hdesc : ∀ k p, ops[k]? = some p → i ∈ (ancs ops.toList).getD k [] → listed.getD k false = false := fun k p hk hik => by
        cases hl : listed.getD k false with
        | false => rfl
        | true =>
          have := anc_closed (ops := ops.toList) (L := fun k => listed.getD k false = true) (fun k p hk hp j hj => hcl k p hk (by simpa using hp) j hj) k p (by simpa using hk) hl i hik
          rw [hunf] at this; cases this
      -- what it looks at is as in the order of the text
      have hslot : ∀ t, t ∈ looks ops.toList o → VA x (gT (Ts i) t) (a.tmps.getD t undef) := fun t htl => by
        by_cases ht : t < (Ts 0).length
        · obtain ⟨s1, s2⟩ := tr.slot hrg ht i (by omega)
          by_cases hex : ∃ j p, j < i ∧ ops[j]? = some p ∧ p.dst = some t
          · obtain ⟨j, p, hj, hpj, hdj⟩ := hex
            rw [s1 j p hj hpj hdj]
            have hl : listed.getD j false = true := by
              rcases hrg.look i j o p hol (by simpa using hpj) (by omega) t hdj htl with h | h
              · exact hanc j h
              · have := anc_lt hrg.lt j p (by simpa using hpj) i h; omega
            exact h1 j p hl hpj t hdj ht
          · rw [s2 (fun j p hj hpj hdj => hex ⟨j, p, hj, hpj, hdj⟩)]
            refine h2 t ht (fun k p hl hpk hdk => ?_)
            by_cases e : k = i
            · subst e; rw [hunf] at hl; cases hl
            · rcases hrg.look i k o p hol (by simpa using hpk) (fun h => e h.symm) t hdk htl with h | h
              · have hki := anc_lt hrg.lt i o hol k h
                exact hex ⟨k, p, hki, hpk, hdk⟩
              · rw [hdesc k p hpk h] at hl; cases hl
        · rw [gT_eq, List.getElem?_eq_none (by rw [tr.length i (by omega)]; omega)]
          exact .any _
      have hops : ∀ y, y ∈ o.op.operands.toList → VA x (ev E (Ts i) y) (a.eval y) := fun y hy => by
        cases y with
        | tmp t => exact hslot t (by unfold looks; exact List.mem_append_left _ (List.mem_filterMap.2 ⟨.tmp t, hy, rfl⟩))
        | const v => exact VA.cv x v
        | global g => exact .c _ _ (hR.glob hB g)
        | func f => exact .c _ _ (.clo _ [] #[] (fun _ => undef) rfl (fun i c hc => by simp at hc) (fun i c hc => by simp at hc))
      have hwant : Region.wanted o (yielded ops a.tmps) = want i := wantA_ok' (T := Ts i) (fun j w d hg hd => hslot d (by
        unfold looks
        rw [hg]
        refine List.mem_append_right _ ?_
        simp [hd])) (tr.wanted i o ho)
      -- how the walk goes on
      have next : ∀ (v : Value) (y : Ctx) (O' : Nat → Nat → Prop) (q' : Nat), x.Le y → q' ≤ ops.size → (∀ k, k < ops.size → wr.getD k false = true → ((listed.getD k false = true ∨ k = i) ↔ k < q')) → Rel B y O' (hp q') → VA y (val i) v →
          wpAny E.P .any ops Q' fuel (listed.setIfInBounds i true) (a.put o.dst v) y.w := fun v y O' q' hle hq' hwr' hR' hv => by
        have hget : ∀ k, (listed.setIfInBounds i true).getD k false = true ↔ listed.getD k false = true ∨ k = i := fun k => by
          by_cases e : i = k
          · subst e; simp [hlt]
          · rw [getD_set_ne false e]; exact ⟨.inl, fun h => h.resolve_right (fun h => e h.symm)⟩
        have hput : ∀ t, (a.put o.dst v).tmps.getD t undef = if o.dst = some t ∧ t < a.tmps.size then v else a.tmps.getD t undef := fun t => by
          cases hdst : o.dst with
          | none => simp [Act.put]
          | some d =>
            simp only [Act.put, Option.some.injEq]
            by_cases e : d = t
            · subst e
              by_cases hd' : d < a.tmps.size
              · simp [hd']
              · simp [hd']
            · simp [Array.getElem?_setIfInBounds_ne e, e]
        refine ih _ _ y O' q' (by simpa using hsz) ?_ (fun k p hk hp j hj => ?_) hq' (fun k hk hw => (hget k).trans (hwr' k hk hw)) hR' (by cases hdst : o.dst <;> simp [Act.put, hd]) (by cases hdst : o.dst <;> simp [Act.put, hts]) (fun k p hk hp t hdt ht => ?_) (fun t ht hn => ?_)
        · have hfil : ((List.range ops.size).filter fun k => !(listed.setIfInBounds i true).getD k true) = ((List.range ops.size).filter fun k => !listed.getD k true).filter fun k => k != i := by
            rw [List.filter_filter]
            refine List.filter_congr fun k hk => ?_
            by_cases e : i = k
            · subst e; simp [hlt]
            · rw [getD_set_ne true e]
              have : (k != i) = true := by simpa using fun h => e h.symm
              simp [this]
          rw [hfil]
          have hnd : ((List.range ops.size).filter fun k => !listed.getD k true).Nodup := List.Pairwise.filter _ List.nodup_range
          have hmem : i ∈ (List.range ops.size).filter fun k => !listed.getD k true := by
            rw [List.mem_filter, List.mem_range]
            exact ⟨hin, by simpa using hun⟩
          have := List.Nodup.erase_eq_filter hnd i
          have hle := List.length_erase_of_mem hmem
          rw [this, hcount] at hle
          simpa using hle
        · rw [hget] at hk ⊢
          rcases hk with hk | rfl
          · exact .inl (hcl k p hk hp j hj)
          · rw [ho] at hp; cases hp; exact .inl (hbl j hj)
        · rw [hget] at hk
          rw [hput]
          rcases hk with hk | rfl
          · have hne : k ≠ i := fun e => by subst e; rw [hunf] at hk; cases hk
            have : o.dst ≠ some t := fun hdo => hrg.dist i k o p hol (by simpa using hp) (fun h => hne h.symm) t hdo hdt
            rw [if_neg (fun h => this h.1)]
            exact (h1 k p hk hp t hdt ht).mono hle
          · rw [ho] at hp
            cases hp
            have hc : o.dst = some t ∧ t < a.tmps.size := ⟨hdt, by rw [hts]; exact ht⟩
            rw [if_pos hc]
            exact hv
        · have hne : o.dst ≠ some t := hn i o ((hget i).2 (.inr rfl)) ho
          rw [hput, if_neg (fun h => hne h.1)]
          exact (h2 t ht (fun k p hk hp => hn k p ((hget k).2 (.inl hk)) hp)).mono hle
      unfold wpOp
      rw [ho]
      simp only []
      rw [hwant]
      cases hw : want i with
      | false =>
        simp only [Bool.false_eq_true, if_false]
        obtain ⟨k1, k2⟩ := tr.skip i o ho hw
        cases hwi : wr.getD i false with
        | false =>
          refine next undef x O q (.refl x) hq (fun k hk hwk => ?_) hR (by rw [k1]; exact .und)
          rw [← hwr k hk hwk]
          refine ⟨fun h => h.resolve_right (fun e => by subst e; rw [hwi] at hwk; cases hwk), .inl⟩
        | true =>
          have hqi : q ≤ i := by
            rcases Nat.lt_or_ge i q with h | h
            · have := (hwr i hin hwi).2 h; rw [hunf] at this; cases this
            · exact h
          have hno : ∀ k, q ≤ k → k < i → wr.getD k false = false := fun k hk1 hk2 => by
            cases hwk : wr.getD k false with
            | false => rfl
            | true =>
              exfalso
              have hkl : listed.getD k false = true := by
                rcases hrg.wrs i k hin (by omega) (by omega) hwi hwk with h | h
                · exact hanc k h
                · have hok : ops[k]? = some ops[k] := Array.getElem?_eq_getElem (by omega)
                  have := anc_lt hrg.lt k ops[k] (by rw [Array.getElem?_toList]; exact hok) i h; omega
              have := (hwr k (by omega) hwk).1 hkl
              omega
          have he := tr.hpEq i hqi (by omega) hno
          refine next undef x O (i + 1) (.refl x) (by omega) (fun k hk hwk => ?_) (by rw [k2, he]; exact hR) (by rw [k1]; exact .und)
          rw [hwr k hk hwk]
          by_cases e : k = i
          · subst e; simp
          · by_cases h : k < i
            · have : k < q := by
                rcases Nat.lt_or_ge k q with h' | h'
                · exact h'
                · rw [hno k h' h] at hwk; cases hwk
              omega
            · omega
      | true =>
        simp only [if_true]
        left
        cases hwi : wr.getD i false with
        | false =>
          have hqq := tr.quiet i o ho hw hwi q hq (fun w hw1 hw2 hw3 => (hwr w hw1 hw2).1 (hanc w (List.contains_iff_mem.1 hw3))) (fun w hw1 hw2 hw3 => by
            rcases Nat.lt_or_ge w q with h | h
            · have h' := (hwr w hw1 hw2).2 h
              have hok : ops[w]? = some ops[w] := by simp [hw1]
              rw [hdesc w _ hok (List.contains_iff_mem.1 hw3)] at h'; cases h'
            · exact h)
          refine hqq B x O a _ _ hB hR hd (by rw [tr.length i (by omega)]; exact hts) hops (fun v' y O' hle hR' hv => next v' y O' q hle hq (fun k hk hwk => ?_) hR' hv)
          rw [← hwr k hk hwk]
          exact ⟨fun h => h.resolve_right (fun e => by subst e; rw [hwi] at hwk; cases hwk), .inl⟩
        | true =>
          have hqi : q ≤ i := by
            rcases Nat.lt_or_ge i q with h | h
            · have := (hwr i hin hwi).2 h; rw [hunf] at this; cases this
            · exact h
          have hno : ∀ k, q ≤ k → k < i → wr.getD k false = false := fun k hk1 hk2 => by
            cases hwk : wr.getD k false with
            | false => rfl
            | true =>
              exfalso
              have hkl : listed.getD k false = true := by
                rcases hrg.wrs i k hin (by omega) (by omega) hwi hwk with h | h
                · exact hanc k h
                · have hok : ops[k]? = some ops[k] := Array.getElem?_eq_getElem (by omega)
                  have := anc_lt hrg.lt k ops[k] (by rw [Array.getElem?_toList]; exact hok) i h; omega
              have := (hwr k (by omega) hwk).1 hkl
              omega
          have he := tr.hpEq i hqi (by omega) hno
          refine tr.write i o ho hw hwi B x O a _ _ hB (by rw [he]; exact hR) hd (by rw [tr.length i (by omega)]; exact hts) hops (fun v' y O' hle hR' hv => next v' y O' (i + 1) hle (by omega) (fun k hk hwk => ?_) hR' hv)
          rw [hwr k hk hwk]
          by_cases e : k = i
          · subst e; simp
          · by_cases h : k < i
            · have : k < q := by
                rcases Nat.lt_or_ge k q with h' | h'
                · exact h'
                · rw [hno k h' h] at hwk; cases hwk
              omega
            · omega

end
end Go.Eng
namespace Go.Eng
open Go.RowKit
set_option linter.unusedVariables false
set_option linter.unusedSimpArgs false

def visC (H : Heap) : C → Bool
  | .own id _ _ _ => (hG H id).isSome
  | .ptr id _ _ _ => (hG H id).isSome
  | .nils => true
  | .clo _ [] => true
  | .clo _ _ => false
  | .d _ => true
  | .pf _ _ => true
  | .pa _ => true
  | .any => true

def visCs (H : Heap) : List C → Bool
  | [] => true
  | c :: l => visC H c && visCs H l

mutual
def visA (H : Heap) : A → Bool
  | .c c => visC H c
  | .agg cs => visCs H cs
  | .tup l => visAs H l
  | .und => true
  | .any => true
def visAs (H : Heap) : List A → Bool
  | [] => true
  | a :: l => visA H a && visAs H l
end
theorem visAs_mem {H : Heap} : ∀ {l : List A}, visAs H l = true → ∀ a ∈ l, visA H a = true
  | [], _, a, h => by cases h
  | b :: l, h, a, ha => by
    simp only [visAs, Bool.and_eq_true] at h
    rcases List.mem_cons.1 ha with rfl | ha
    · exact h.1
    · exact visAs_mem h.2 a ha

theorem VR.vis {x z : Ctx} {H : Heap} (hw : z.w = x.w) (hF : z.F = x.F) (hL : z.L = x.L) (h : ∀ id, (hG H id).isSome = true → z.N id = x.N id ∧ z.μ id = x.μ id) {c : C} {v : Value} (hv : VR x c v) (hvis : visC H c = true) : VR z c v := by
  cases hv with
  | d _ _ hd => exact .d _ _ (by rw [hw, hF]; exact hd)
  | nils => exact .nils
  | own id off len n v hv =>
    obtain ⟨h1, h2⟩ := h id hvis
    refine .own _ _ _ _ _ ⟨hv.1, by rw [hL]; exact hv.2.1, fun s m hm => ?_⟩
    rw [h1] at hm
    have := hv.2.2 s m hm
    rw [h2, hw]
    exact this
  | ptr id j off n v hv =>
    obtain ⟨h1, h2⟩ := h id hvis
    refine .ptr _ _ _ _ _ ⟨hv.1, by rw [hL]; exact hv.2.1, fun s m hm => ?_⟩
    rw [h1] at hm
    have := hv.2.2 s m hm
    rw [h2]
    exact this
  | pf cells off b o h1 h2 => exact .pf _ _ b o (by rw [hF]; exact h1) (by rw [hw, hF]; exact h2)
  | pa rows b o s h1 h2 h3 => exact .pa _ b o s (by rw [hF]; exact h1) h2 (by rw [hw, hF]; exact h3)
  | clo fn caps vs u hl hu hv =>
    cases caps with
    | nil => exact .clo fn [] vs u hl hu (fun i c hc => by simp at hc)
    | cons c l => cases hvis
  | any v h => exact .any v h

theorem visCs_mem {H : Heap} : ∀ {l : List C}, visCs H l = true → ∀ c ∈ l, visC H c = true
  | [], _, c, h => by simp at h
  | a :: l, h, c, hc => by
    simp only [visCs, Bool.and_eq_true] at h
    rcases List.mem_cons.1 hc with rfl | hc
    · exact h.1
    · exact visCs_mem h.2 c hc

theorem VA.vis {x z : Ctx} {H : Heap} (hw : z.w = x.w) (hF : z.F = x.F) (hL : z.L = x.L) (h : ∀ id, (hG H id).isSome = true → z.N id = x.N id ∧ z.μ id = x.μ id) {a : A} {v : Value} (hv : VA x a v) (hvis : visA H a = true) : VA z a v := by
  induction hv with
  | c c v hv => exact .c _ _ (hv.vis hw hF hL h (by simpa only [visA] using hvis))
  | agg cs vs hv => exact .agg _ _ ⟨hv.1, fun i c hc => let ⟨u, h1, h2⟩ := hv.2 i c hc; ⟨u, h1, h2.vis hw hF hL h (visCs_mem (by simpa only [visA] using hvis) c (List.mem_of_getElem? hc))⟩⟩
  | tup l vs u hl hu hv ih => exact .tup _ _ u hl hu fun i a hi => ih i a hi (visAs_mem (by simpa only [visA] using hvis) a (List.mem_of_getElem? hi))
  | und => exact .und
  | any => exact .any _

def visH (H : Heap) : Heap → Bool
  | [] => true
  | some (.box cs _) :: l => visCs H cs && visH H l
  | _ :: l => visH H l

theorem visH_get {H : Heap} : ∀ {l : Heap}, visH H l = true → ∀ (i : Nat) cs ty, l[i]? = some (some (.box cs ty)) → visCs H cs = true
  | [], _, i, cs, ty, h => by simp at h
  | b :: l, h, i, cs, ty, hb => by
    cases i with
    | zero =>
      simp only [List.getElem?_cons_zero, Option.some.injEq] at hb
      subst hb
      simp only [visH, Bool.and_eq_true] at h
      exact h.1
    | succ i =>
      refine visH_get (l := l) ?_ i cs ty (by simpa using hb)
      cases b with
      | none => exact h
      | some b => cases b with
        | box c _ => simp only [visH, Bool.and_eq_true] at h; exact h.2
        | rows s r => exact h
        | mp es => exact h
        | raw r => exact h

theorem OpY.frame {E : Env} {T : List A} {H hd : Heap} {o : Oper} {v : A} (h : OpY E T hd o v hd) (hs : LeH H hd) (hvis : visA hd v = true) (hvh : visH hd hd = true) : OpY E T H o v H := by
  intro B x O a K Q hB hR hd0 hsz hops hk
  obtain ⟨s1, s2⟩ := hs.ok
  obtain ⟨y, hyw, hxy, hRy⟩ := hR.sub s1 s2
  let seen : Nat → Prop := fun id => ∃ b, hd[id]? = some (some b)
  let Bl : Base := { x := y, A := fun b => ∃ id, seen id ∧ O id b }
  have hBl : Bl.ok E := fun q => (hR.glob hB q).mono hxy
  have hsize : y.w.heap.size = x.w.heap.size := by rw [hyw]
  have hRl : Rel Bl y (fun id b => seen id ∧ O id b) hd := by
    refine ⟨hRy.hL, hRy.hN, .refl y, rfl, rfl, rfl, fun _ _ _ => rfl, fun id b hb => ⟨(hRy.own _ _ hb.2).1, .inl ⟨id, hb⟩⟩, fun k hk => ⟨(hRy.fr k hk).1, .inl hk⟩, fun i j b hi hj => hRy.disj _ _ _ hi.2 hj.2, fun id b hb hF => hRy.nof _ _ hb.2 hF, fun id b hb => ?_⟩
    exact (hRy.blk id b hb).mono (.refl y) rfl (fun k hk => ⟨⟨b, hb⟩, hk⟩) (fun _ _ => rfl)
  rw [← hyw]
  refine h Bl y _ a K Q hBl hRl hd0 hsz (fun q hq => (hops q hq).mono hxy) (fun v' x' O' hle hR' hv => ?_)
  classical
  let z : Ctx := { w := x'.w, F := x'.F, μ := fun id => if seen id then x'.μ id else x.μ id, N := nOf H, L := H.length }
  let Oz : Nat → Nat → Prop := fun id b => if seen id then O' id b else O id b
  have hx'L : x'.L = H.length := by rw [hR'.hL, s1]
  have hNs : ∀ id, seen id → z.N id = x'.N id := fun id ⟨b, hb⟩ => by
    rw [hR'.hN]
    show nOf H id = _
    rw [nOf_some hb, nOf_some (s2 id b hb)]
  have hBA : ∀ b, Bl.A b → (B.A b ∨ B.x.w.heap.size ≤ b) ∧ b < x.w.heap.size := fun b ⟨k, _, ho⟩ => ⟨(hR.own _ _ ho).2, (hR.own _ _ ho).1⟩
  have hOo : ∀ id b, ¬ seen id → O id b → ¬ Bl.A b := fun id b h ho ⟨k, hk, ho'⟩ => h (hR.disj _ _ _ ho ho' ▸ hk)
  have hkeepO : ∀ id b, ¬ seen id → O id b → x'.w.heap[b]? = x.w.heap[b]? := fun id b h ho => by
    have := hR'.keep b (by rw [hsize]; exact (hR.own _ _ ho).1) (hOo id b h ho)
    rw [this, hyw]
  have hxz : x.Le z := by
    have hx' := hxy.trans hle
    refine ⟨hx'.F, hx'.size, by show x.L ≤ H.length; rw [hR.hL]; exact Nat.le_refl _, fun id hid s n hn => ?_⟩
    have hn' : x.N id = some (s, n) := by rw [hR.hN]; exact hn
    by_cases h : seen id
    · have hn2 : x'.N id = some (s, n) := by rw [← hNs id h]; exact hn
      obtain ⟨n', q1, q2, q3⟩ := hx'.N id hid s n hn2
      rw [hn'] at q1
      cases q1
      refine ⟨n, hn', Nat.le_refl _, fun _ => ?_⟩
      obtain ⟨q4, q5⟩ := q3 rfl
      exact ⟨by show (if seen id then x'.μ id else x.μ id) = _; rw [if_pos h]; exact q4, q5⟩
    · refine ⟨n, hn', Nat.le_refl _, fun _ => ⟨by show (if seen id then x'.μ id else x.μ id) = _; rw [if_neg h], fun c lo hc => ?_⟩⟩
      have ho := owns hR (hR.hN id ▸ hn') hc
      show bsz x'.w c = _
      unfold bsz
      rw [hkeepO id c h ho]
  refine hk v' z Oz hxz ?_ (hv.vis (x := x') (z := z) rfl rfl hx'L.symm (fun id hid => ?_) hvis)
  · refine ⟨rfl, fun _ => rfl, hR.le.trans hxz, (hR'.os.trans (by show y.w.os = _; rw [hyw])).trans hR.os, (hR'.tape.trans (by show y.w.tape = _; rw [hyw])).trans hR.tape, (hR'.output.trans (by show y.w.output = _; rw [hyw])).trans hR.output, fun b hb hA => ?_, fun id b hb => ?_, fun b hb => ?_, fun i j b hi hj => ?_, fun id b hb hF => ?_, fun id b hb => ?_⟩
    · have hb' : b < x.w.heap.size := Nat.lt_of_lt_of_le hb hR.le.size
      have := hR'.keep b (by rw [hsize]; exact hb') (fun h => by
        rcases (hBA b h).1 with h | h
        · exact hA h
        · omega)
      exact (this.trans (by show y.w.heap[b]? = _; rw [hyw])).trans (hR.keep b hb hA)
    · have hb' : if seen id then O' id b else O id b := hb
      split at hb'
      · obtain ⟨q1, q2⟩ := hR'.own id b hb'
        refine ⟨q1, ?_⟩
        rcases q2 with q2 | q2
        · exact (hBA b q2).1
        · right
          have q2' : y.w.heap.size ≤ b := q2
          rw [hsize] at q2'
          exact Nat.le_trans hR.le.size q2'
      · exact ⟨Nat.lt_of_lt_of_le (hR.own _ _ hb').1 (by rw [← hsize]; exact hR'.le.size), (hR.own _ _ hb').2⟩
    · obtain ⟨q1, q2⟩ := hR'.fr b hb
      refine ⟨q1, ?_⟩
      rcases q2 with q2 | q2 | q2
      · have : y.F b := q2
        have := (hRy.fr b this).2
        exact this
      · rcases (hBA b q2).1 with h | h
        · exact .inr (.inl h)
        · exact .inr (.inr h)
      · have q2' : y.w.heap.size ≤ b := q2
        rw [hsize] at q2'
        exact .inr (.inr (Nat.le_trans hR.le.size q2'))
    · have hi' : if seen i then O' i b else O i b := hi
      have hj' : if seen j then O' j b else O j b := hj
      have hmix : ∀ i k, ¬ seen i → O i b → O' k b → False := fun i k h ho hl => by
        rcases (hR'.own k b hl).2 with h2 | h2
        · exact hOo i b h ho h2
        · have := (hR.own i b ho).1
          have h2' : y.w.heap.size ≤ b := h2
          omega
      split at hi' <;> split at hj'
      · exact hR'.disj _ _ _ hi' hj'
      · rename_i h h'; exact (hmix j i h' hj' hi').elim
      · rename_i h h'; exact (hmix i j h hi' hj').elim
      · exact hR.disj _ _ _ hi' hj'
    · have hb' : if seen id then O' id b else O id b := hb
      split at hb'
      · exact hR'.nof _ _ hb' hF
      · rename_i h
        rcases (hR'.fr b hF).2 with h2 | h2 | h2
        · have : y.F b := h2
          exact hRy.nof _ _ hb' this
        · exact hOo id b h hb' h2
        · have := (hR.own id b hb').1
          have h2' : y.w.heap.size ≤ b := h2
          omega
    · by_cases h : seen id
      · obtain ⟨b', hb'⟩ := h
        have e := s2 id b' hb'
        rw [hb] at e
        cases e
        have hO2 : Oz id = O' id := by funext c; show (if seen id then O' id c else O id c) = _; rw [if_pos ⟨b, hb'⟩]
        rw [hO2]
        have hBR := hR'.blk id b hb'
        have hμz : z.μ id = x'.μ id := by show (if seen id then x'.μ id else x.μ id) = _; rw [if_pos ⟨b, hb'⟩]
        have hvz : ∀ id, (hG hd id).isSome = true → z.N id = x'.N id ∧ z.μ id = x'.μ id := fun id hid => by
          obtain ⟨b, hb⟩ := Option.isSome_iff_exists.1 hid
          have hs' : seen id := ⟨b, hG_some hb⟩
          exact ⟨hNs id hs', by show (if seen id then x'.μ id else x.μ id) = _; rw [if_pos hs']⟩
        cases b with
        | box cs ty =>
          obtain ⟨g, vs, t, q1, q2, q3, q4⟩ := hBR
          exact ⟨g, vs, t, by rw [hμz]; exact q1, q2, q3, q4.1, fun i c hc => let ⟨u, h1, h2⟩ := q4.2 i c hc; ⟨u, h1, h2.vis (x := x') (z := z) rfl rfl hx'L.symm hvz (visCs_mem (visH_get hvh id cs ty hb') c (List.mem_of_getElem? hc))⟩⟩
        | rows s rs =>
          obtain ⟨q0, q1, q2⟩ := hBR
          refine ⟨q0, q1, ?_⟩
          rw [hμz]
          exact q2
        | mp es =>
          obtain ⟨g, ents, ck, q1, q2, q3, q4⟩ := hBR
          exact ⟨g, ents, ck, by rw [hμz]; exact q1, q2, q3, q4⟩
        | raw r =>
          obtain ⟨q1, q2⟩ := hBR
          exact ⟨fun g lo h => q1 g lo (by rw [← hμz]; exact h), by rw [hμz]; exact q2⟩
      · have hO2 : Oz id = O id := by funext c; show (if seen id then O' id c else O id c) = _; rw [if_neg h]
        rw [hO2]
        exact (hR.blk id b hb).mono hxz (by show (if seen id then x'.μ id else x.μ id) = _; rw [if_neg h]) (fun _ h => h) (fun c hc => hkeepO id c h hc)
  · obtain ⟨b, hb⟩ := Option.isSome_iff_exists.1 hid
    have hs' : seen id := ⟨b, hG_some hb⟩
    exact ⟨hNs id hs', by show (if seen id then x'.μ id else x.μ id) = _; rw [if_pos hs']⟩


def QuietP (r : Option (A × Heap)) (H : Heap) (K : A → Prop) : Prop := match r with | some (v, H') => H' = H ∧ K v | none => False

def Lh (na : Bool) (H hd : Heap) : Prop := na = true ∨ LeH H hd

def DStep (E : Env) (na : Bool) (hd : Heap) (w b : Bool) (T : List A) (H : Heap) (o : Oper) (K : A → Heap → Prop) : Prop :=
  match w, b with
  | true, b => ∃ v H', OpY E T H o v H' ∧ (b = true ∨ Lh na H' hd) ∧ K v H'
  | false, true => na = false ∧ ∃ v, (∀ H2, LeH H2 hd → OpY E T H2 o v H2) ∧ K v H
  | false, false => ∃ v, OpY E T H o v H ∧ K v H

def DOps (E : Env) (na : Bool) (hd : Heap) (ds : List (Option Nat)) : List Oper → List Bool → List Bool → List A → Heap → (List A → Heap → Prop) → Prop
  | [], _, _, T, H, Q => Q T H
  | o :: l, w :: wr, b :: am, T, H, Q => GdP (wantA ds T o.guard) (DStep E na hd w b T H o fun v H' => DOps E na hd ds l wr am (putT T o.dst v) H' Q) (DOps E na hd ds l wr am (putT T o.dst .und) H Q)
  | _, _, _, _, _, _ => False

def TraceFrom (F : Prop) (E : Env) (na : Bool) (ops : Array Oper) (hd : Heap) (wr am : List Bool) (k : Nat) (T : List A) (H : Heap) (Q : List A → Heap → Prop) : Prop :=
  ∃ (val : Nat → A) (want : Nat → Bool) (hp : Nat → Heap) (Ts : Nat → List A), Ts k = T ∧ hp k = H ∧ Q (Ts ops.size) (hp ops.size) ∧
    (∀ i, k ≤ i → i ≤ ops.size → ¬ F → (∀ j, k ≤ j → j < i → wr.getD j false = true → am.getD j false = false) → Lh na (hp i) hd) ∧
    ∀ (i : Nat) o, k ≤ i → ops[i]? = some o → wantA (dsts ops.toList) (Ts i) o.guard = some (want i) ∧ Ts (i + 1) = putT (Ts i) o.dst (val i) ∧ (want i = false → val i = .und ∧ hp (i + 1) = hp i) ∧
      (want i = true → wr.getD i false = true → OpY E (Ts i) (hp i) o (val i) (hp (i + 1))) ∧ (wr.getD i false = false → hp (i + 1) = hp i) ∧
      (want i = true → wr.getD i false = false → am.getD i false = true → na = false ∧ ∀ H2, LeH H2 hd → OpY E (Ts i) H2 o (val i) H2) ∧
      (want i = true → wr.getD i false = false → am.getD i false = false → OpY E (Ts i) (hp i) o (val i) (hp i))

theorem DOps.trace {E : Env} {na : Bool} {ops : Array Oper} {hd : Heap} : ∀ (l : List Oper) (k : Nat) (wr0 am0 wr am : List Bool) (T : List A) (H : Heap) (Q : List A → Heap → Prop) (F : Prop),
    ops.toList.drop k = l → wr0.length = k → am0.length = k → (F ∨ Lh na H hd) → DOps E na hd (dsts ops.toList) l wr am T H Q →
    TraceFrom F E na ops hd (wr0 ++ wr) (am0 ++ am) k T H Q
  | [], k, wr0, am0, wr, am, T, H, Q, F, hl, hw0, ha0, hle, h => by
    have hk : ops.size ≤ k := by
      have := List.drop_eq_nil_iff.1 hl
      simpa using this
    refine ⟨fun _ => .und, fun _ => false, fun _ => H, fun _ => T, rfl, rfl, h, fun _ _ _ hF _ => hle.resolve_left hF, fun i o hi ho => ?_⟩
    have := (Array.getElem?_eq_some_iff.1 ho).1
    omega
  | o :: l, k, wr0, am0, [], am, T, H, Q, F, hl, hw0, ha0, hle, h => by cases h
  | o :: l, k, wr0, am0, w :: wr, [], T, H, Q, F, hl, hw0, ha0, hle, h => by cases h
  | o :: l, k, wr0, am0, w :: wr, b :: am, T, H, Q, F, hl, hw0, ha0, hle, h => by
    have hlt : k < ops.toList.length := by
      rcases Nat.lt_or_ge k ops.toList.length with h' | h'
      · exact h'
      · rw [List.drop_eq_nil_of_le h'] at hl; cases hl
    rw [List.drop_eq_getElem_cons hlt] at hl
    have ho : ops[k]? = some o := by
      have : ops.toList[k] = o := (List.cons.inj hl).1
      rw [← Array.getElem?_toList, List.getElem?_eq_getElem hlt, this]
    have hl' : ops.toList.drop (k + 1) = l := (List.cons.inj hl).2
    simp only [DOps] at h
    have hww : (wr0 ++ w :: wr).getD k false = w := by rw [List.getD_eq_getElem?_getD, List.getElem?_append_right (by omega), hw0]; simp
    have haa : (am0 ++ b :: am).getD k false = b := by rw [List.getD_eq_getElem?_getD, List.getElem?_append_right (by omega), ha0]; simp
    have ew : wr0 ++ w :: wr = (wr0 ++ [w]) ++ wr := by simp
    have ea : am0 ++ b :: am = (am0 ++ [b]) ++ am := by simp
    -- what is left, once it is known what this one comes to
    have go : ∀ (v : A) (bw : Bool) (H' : Heap), wantA (dsts ops.toList) T o.guard = some bw → ((F ∨ w = true ∧ b = true) ∨ Lh na H' hd) → DOps E na hd (dsts ops.toList) l wr am (putT T o.dst v) H' Q → (bw = false → v = .und ∧ H' = H) → (bw = true → w = true → OpY E T H o v H') → (w = false → H' = H) →
        (bw = true → w = false → b = true → na = false ∧ ∀ H2, LeH H2 hd → OpY E T H2 o v H2) → (bw = true → w = false → b = false → OpY E T H o v H) → TraceFrom F E na ops hd (wr0 ++ w :: wr) (am0 ++ b :: am) k T H Q := fun v bw H' hb hle' hrest c1 c2 c3 c4 c5 => by
      obtain ⟨val, want, hp, Ts, t1, t2, t3, t4, t5⟩ := DOps.trace (E := E) (ops := ops) l (k + 1) (wr0 ++ [w]) (am0 ++ [b]) wr am _ H' Q (F ∨ w = true ∧ b = true) hl' (by simp [hw0]) (by simp [ha0]) hle' hrest
      refine ⟨fun i => if i = k then v else val i, fun i => if i = k then bw else want i, fun i => if i = k then H else hp i, fun i => if i = k then T else Ts i, by simp, by simp, ?_, fun i h1 h2 hF hfin => ?_, fun i p hi hp' => ?_⟩
      · have hne : ops.size ≠ k := by simp at hlt; omega
        simp only [if_neg hne]
        exact t3
      · by_cases e : i = k
        · simp only [if_pos e]; exact hle.resolve_left hF
        · simp only [if_neg e]
          refine t4 i (by omega) h2 (fun hF' => ?_) (fun j hj1 hj2 hj3 => by rw [← ea]; exact hfin j (by omega) hj2 (by rw [ew]; exact hj3))
          rcases hF' with hF' | ⟨hw1, hb1⟩
          · exact hF hF'
          · have := hfin k (Nat.le_refl _) (by omega) (by rw [hww, hw1])
            rw [haa, hb1] at this
            cases this
      · by_cases e : i = k
        · subst e
          rw [ho] at hp'
          cases hp'
          have hne : i + 1 ≠ i := by omega
          simp only [if_pos, if_neg hne, t1, t2, hww, haa]
          exact ⟨hb, trivial, c1, c2, c3, c4, c5⟩
        · have hne : i + 1 ≠ k := by omega
          simp only [if_neg e, if_neg hne]
          rw [ew, ea]
          exact t5 i p (by omega) hp'
    cases hb : wantA (dsts ops.toList) T o.guard with
    | none => rw [hb] at h; exact h.elim
    | some bw =>
      rw [hb] at h
      simp only [GdP] at h
      cases bw with
      | false => exact go .und false H hb (hle.elim (fun h => .inl (.inl h)) .inr) (h.2 rfl) (fun _ => ⟨rfl, rfl⟩) (fun h => by cases h) (fun _ => rfl) (fun h => by cases h) (fun h => by cases h)
      | true =>
        have h := h.1 rfl
        cases w with
        | true =>
          obtain ⟨v, H', h1, h2, h3⟩ := h
          exact go v true H' hb (h2.elim (fun h => .inl (.inr ⟨rfl, h⟩)) .inr) h3 (fun h => by cases h) (fun _ _ => h1) (fun h => by cases h) (fun _ h => by cases h) (fun _ h => by cases h)
        | false =>
          cases b with
          | true =>
            obtain ⟨hna, v, h1, h3⟩ := h
            exact go v true H hb (hle.elim (fun h => .inl (.inl h)) .inr) h3 (fun h => by cases h) (fun _ h => by cases h) (fun _ => rfl) (fun _ _ _ => ⟨hna, h1⟩) (fun _ _ h => by cases h)
          | false =>
            obtain ⟨v, h1, h3⟩ := h
            exact go v true H hb (hle.elim (fun h => .inl (.inl h)) .inr) h3 (fun h => by cases h) (fun _ h => by cases h) (fun _ => rfl) (fun _ _ h => by cases h) (fun _ _ _ => h1)

theorem awp_draw {E : Env} {T : List A} {H : Heap} {Q : Exit → List A → Heap → Prop} {m id : Nat} {ops : Array Oper} (wr am : List Bool) (na : Bool) (hd : Heap) (hrg : rgOk ops.toList wr am = true) (hle : Lh na H hd)
    (h : DOps E na hd (dsts ops.toList) ops.toList wr am T H (Q .normal)) : AWP E (.region id ops true) T H Q m := by
  intro B a w hB hm hs
  obtain ⟨hdf, x, O, rfl, hR, hT⟩ := hs
  have hr := RgOk.of hrg
  obtain ⟨val, want, hp, Ts, t1, t2, t3, t4, t5⟩ := DOps.trace (E := E) (ops := ops) ops.toList 0 [] [] wr am T H (Q .normal) False (by simp) rfl rfl (.inr hle) h
  simp only [List.nil_append] at t4 t5
  have tr : Trace E ops wr val want hp Ts := {
    wanted := fun i o ho => (t5 i o (Nat.zero_le _) ho).1
    step := fun i o ho => (t5 i o (Nat.zero_le _) ho).2.1
    skip := fun i o ho hw => (t5 i o (Nat.zero_le _) ho).2.2.1 hw
    write := fun i o ho hw hwr => (t5 i o (Nat.zero_le _) ho).2.2.2.1 hw hwr
    still := fun i o ho hwr => (t5 i o (Nat.zero_le _) ho).2.2.2.2.1 hwr
    quiet := fun i o ho hw hwr q hq hw1 hw2 => by
      obtain ⟨_, _, _, _, _, c4, c5⟩ := t5 i o (Nat.zero_le _) ho
      have hin : i < ops.size := (Array.getElem?_eq_some_iff.1 ho).1
      cases hab : am.getD i false with
      | true =>
        obtain ⟨hna, c6⟩ := c4 hw hwr hab
        have hl : LeH (hp q) hd := (t4 q (Nat.zero_le _) hq (fun h => h) (fun j _ hj hwj => by
          have hjs : j < ops.size := by omega
          cases haj : am.getD j false with
          | false => rfl
          | true =>
            exfalso
            have hne : i ≠ j := fun e => by subst e; rw [hwr] at hwj; cases hwj
            have := hw2 j hjs hwj (List.contains_iff_mem.2 (hr.fin i j hin hjs hne hwr hwj hab haj))
            omega)).resolve_left (by simp [hna])
        exact c6 _ hl
      | false =>
        have c6 := c5 hw hwr hab
        have hno : ∀ k, k < ops.size → wr.getD k false = true → (k < i ∧ k < q) ∨ (i < k ∧ q ≤ k) := fun k hk hwk => by
          have hne : i ≠ k := fun e => by subst e; rw [hwr] at hwk; cases hwk
          have hok : ops.toList[k]? = some ops[k] := by rw [Array.getElem?_toList]; exact Array.getElem?_eq_getElem hk
          rcases hr.pl i k hin hk hne hwr hwk hab with h | h
          · exact .inl ⟨anc_lt hr.lt i o (by simpa using ho) k h, hw1 k hk hwk (List.contains_iff_mem.2 h)⟩
          · exact .inr ⟨anc_lt hr.lt k _ hok i h, hw2 k hk hwk (List.contains_iff_mem.2 h)⟩
        have hst : ∀ j p, ops[j]? = some p → wr.getD j false = false → hp (j + 1) = hp j := fun j p hp hwj => (t5 j p (Nat.zero_le _) hp).2.2.2.2.1 hwj
        have heq : ∀ a b, a ≤ b → b ≤ ops.size → (∀ k, a ≤ k → k < b → wr.getD k false = false) → hp b = hp a := fun a b hab hb hn => by
          induction b with
          | zero => have : a = 0 := by omega
                    rw [this]
          | succ b ih =>
            by_cases e : a = b + 1
            · rw [e]
            · have hob : ops[b]? = some ops[b] := Array.getElem?_eq_getElem (by omega)
              rw [hst b _ hob (hn b (by omega) (by omega))]
              exact ih (by omega) (by omega) (fun k h1 h2 => hn k h1 (by omega))
        have he : hp q = hp i := by
          rcases Nat.le_total q i with h | h
          · exact (heq q i h (by omega) (fun k h1 h2 => by
              cases hwk : wr.getD k false with
              | false => rfl
              | true => have := hno k (by omega) hwk; omega)).symm
          · exact heq i q h hq (fun k h1 h2 => by
              cases hwk : wr.getD k false with
              | false => rfl
              | true => have := hno k (by omega) hwk; omega)
        rw [he]
        exact c6 }
  refine wp_region_any E.hmix ?_
  have hdrew : x.w.drew = { x.w with drawn := x.w.drawn + 1 } := rfl
  -- a draw changes no block
  let y : Ctx := { w := x.w.drew, F := x.F, μ := x.μ, N := x.N, L := x.L }
  have hxy : x.Le y := ⟨fun k hk => ⟨hk, rfl⟩, Nat.le_refl _, Nat.le_refl _, fun id _ s m hm => ⟨m, hm, Nat.le_refl _, fun _ => ⟨rfl, fun _ _ _ => rfl⟩⟩⟩
  have hRy : Rel B y O H := ⟨hR.hL, hR.hN, hR.le.trans hxy, hR.os, hR.tape, hR.output, hR.keep, hR.own, hR.fr, hR.disj, hR.nof, fun id b hb => (hR.blk id b hb).mono hxy rfl (fun _ h => h) (fun _ _ => rfl)⟩
  have hTy := hT.mono hxy
  have hrep : ∀ i, (Array.replicate ops.size false).getD i false = false := fun i => by
    rw [Array.getD_eq_getD_getElem?, Array.getElem?_replicate]
    split <;> rfl
  refine tr.any hr hB (fun a' w' hs' => ⟨Ts ops.size, hp ops.size, t3, hs'⟩) ops.size (Array.replicate ops.size false) a y O 0 (by simp) ?_ (fun i o hi => by rw [hrep] at hi; cases hi) (Nat.zero_le _) (fun i hi hw => by rw [hrep]; simp) (by rw [t2]; exact hRy) hdf (by rw [t1]; exact hT.1) (fun i o hi => by rw [hrep] at hi; cases hi) (fun t ht _ => ?_)
  · have : ((List.range ops.size).filter fun i => !(Array.replicate ops.size false).getD i true) = List.range ops.size := by
      rw [List.filter_eq_self]
      intro i hi
      rw [List.mem_range] at hi
      simp [hi]
    rw [this, List.length_range]
  · rw [t1]
    exact hTy.get t

end Go.Eng
namespace Go.Eng
open Go.RowKit
set_option linter.unusedVariables false
set_option linter.unusedSimpArgs false

theorem VR.okC {x : Ctx} {c : C} {u : Value} (h : VR x c u) : Eng.okC x.L c = true := by
  induction h with
  | own id off len n v h => simpa [Eng.okC] using h.2.1
  | ptr id j off n v h => simpa [Eng.okC] using h.2.1
  | clo fn caps vs u hl hu hv ih =>
    have key : ∀ (l : List C), (∀ c, c ∈ l → Eng.okC x.L c = true) → okCs x.L l = true := fun l => by
      induction l with
      | nil => intro _; rfl
      | cons c l ihl => intro h; simp only [okCs, Bool.and_eq_true]; exact ⟨h c (by simp), ihl fun c hc => h c (by simp [hc])⟩
    simp only [Eng.okC]
    exact key caps fun c hc => by
      obtain ⟨i, hi, rfl⟩ := List.getElem_of_mem hc
      exact ih i _ (List.getElem?_eq_getElem hi)
  | _ => rfl

theorem opY_fz {E : Env} {T : List A} {H : Heap} {o : Oper} {off n k s : Nat} {rs : List (List D)} {ty : Option TypeId} (h : OpY E T H o (.c (.own H.length off n k)) (H ++ [some (.rows s rs ty)])) (hk : k = rs.length) (hon : off + n ≤ k) :
    OpY E T H o (.c (.d (.fz (subR off n k rs)))) H := by
  intro B x O a K Q hB hR hd hsz hops hK
  refine h B x O a K Q hB hR hd hsz hops (fun v' x' O' hle hR' hv => ?_)
  cases hv with | c _ _ hv =>
  have htd : toD (H ++ [some (.rows s rs ty)]) (.own H.length off n k) = some (.fz (subR off n k rs), hP (H ++ [some (.rows s rs ty)]) H.length none) := by
    have : hG (H ++ [some (Blk.rows s rs ty)]) H.length = some (.rows s rs ty) := by rw [hG_eq]; simp
    simp only [toD, this]
    rw [if_pos ⟨hk, hon⟩]
  obtain ⟨y, O2, e2, l2, R2, D2⟩ := toD_ok hR' hv htd
  have hP' : hP (H ++ [some (Blk.rows s rs ty)]) H.length none = H ++ [none] := by rw [hP_eq]; simp
  rw [hP'] at R2
  have hN2 : ∀ id, nOf (H ++ [none]) id = nOf H id := fun id => by
    unfold nOf
    by_cases h : id < H.length
    · rw [List.getElem?_append_left h]
    · rw [List.getElem?_append_right (by omega), List.getElem?_eq_none (l := H) (by omega)]
      cases hq : id - H.length with
      | zero => simp
      | succ q => simp
  have hxL : x.L = H.length := hR.hL
  let z : Ctx := { w := y.w, F := y.F, μ := y.μ, N := nOf H, L := H.length }
  have hxy : x.Le y := hle.trans l2
  have hNz : ∀ id, id < H.length → z.N id = y.N id := fun id _ => by rw [R2.hN, hN2]
  have hxz : x.Le z := ⟨hxy.F, hxy.size, by show x.L ≤ H.length; omega, fun id hid s m hm => by
    rw [hNz id (by omega)] at hm
    exact hxy.N id hid s m hm⟩
  have hbz : B.x.Le z := hR.le.trans hxz
  rw [← e2]
  refine hK v' z O2 hxz ?_ (.c _ _ (.d _ _ D2))
  refine ⟨rfl, fun _ => rfl, hbz, R2.os, R2.tape, R2.output, R2.keep, R2.own, R2.fr, R2.disj, R2.nof, fun id b hb => ?_⟩
  have hlt : id < H.length := (List.getElem?_eq_some_iff.1 hb).1
  have hb2 := R2.blk id b (by rw [List.getElem?_append_left hlt]; exact hb)
  have hb0 := hR.blk id b hb
  cases b with
  | box cs ty =>
    obtain ⟨g, vs, t, q1, q2, q3, q4⟩ := hb2
    obtain ⟨_, _, _, _, _, _, q5⟩ := hb0
    exact ⟨g, vs, t, q1, q2, q3, q4.1, fun i c hc => by
      obtain ⟨u, hu, hvu⟩ := q4.2 i c hc
      obtain ⟨u0, _, hv0⟩ := q5.2 i c hc
      exact ⟨u, hu, hvu.cut (x := y) (y := z) (k := H.length) rfl rfl rfl rfl hNz (by rw [← hxL]; exact hv0.okC)⟩⟩
  | rows s rs ty => exact hb2
  | mp es => exact hb2
  | raw r => exact hb2

def fzQ : Option (A × Heap) → Option (A × Heap)
  | some (.c (.own id off n k), H') => match hG H' id with
    | some (.rows s rs _) => if id + 1 = H'.length ∧ k = rs.length ∧ off + n ≤ k then some (.c (.d (.fz (subR off n k rs))), cutL id H') else none
    | _ => none
  | _ => none
where cutL : Nat → Heap → Heap
  | 0, _ => []
  | n + 1, b :: l => b :: cutL n l
  | _ + 1, [] => []

theorem cutL_eq : ∀ (n : Nat) (H : Heap), fzQ.cutL n H = H.take n
  | 0, _ => by simp [fzQ.cutL]
  | n + 1, [] => by simp [fzQ.cutL]
  | n + 1, b :: l => by simp [fzQ.cutL, cutL_eq n l]

theorem fzQ_ok {E : Env} {T : List A} {H : Heap} {o : Oper} {r : Option (A × Heap)} {v : A} (hr : ∀ v H', r = some (v, H') → OpY E T H o v H') (h : fzQ r = some (v, H)) : OpY E T H o v H := by
  unfold fzQ at h
  split at h
  · rename_i id off n k H'
    split at h
    · rename_i s rs ty hb
      split at h
      · rename_i hc
        obtain ⟨h1, h2, h3⟩ := hc
        simp only [Option.some.injEq, Prod.mk.injEq] at h
        obtain ⟨rfl, hH⟩ := h
        rw [cutL_eq] at hH
        have hb' := hG_some hb
        have e : H' = H ++ [some (.rows s rs ty)] := by
          rw [← hH]
          conv => lhs; rw [← List.take_append_drop id H']
          congr 1
          have hlt : id < H'.length := by omega
          rw [List.drop_eq_getElem_cons hlt, List.drop_eq_nil_of_le (by omega)]
          have := List.getElem?_eq_getElem hlt
          rw [hb'] at this
          rw [← Option.some.inj this]
        have hl : id = H.length := by
          have := congrArg List.length e
          simp at this
          omega
        subst e
        subst hl
        exact opY_fz (hr _ _ rfl) h2 h3
      · cases h
    · cases h
  · cases h

def aopW (w : Bool) (E : Env) (T : List A) (H : Heap) (o : Op) : Option (A × Heap) :=
  match w, o with
  | false, .buildSlice t n ps => fzQ (aop E T H (.buildSlice t n ps))
  | _, o => aop E T H o

theorem aopW_t (E : Env) (T : List A) (H : Heap) (o : Op) : aopW true E T H o = aop E T H o := by cases o <;> rfl
theorem aopW_y {w : Bool} {E : Env} {T : List A} {H : Heap} {o : Oper} {v : A} (h : aopW w E T H o.op = some (v, H)) : OpY E T H o v H := by
  unfold aopW at h
  split at h
  · rename_i t n ps heq
    exact fzQ_ok (fun v H' hr => Yld.y (by rw [heq]; exact hr)) h
  · exact Yld.y h
end Go.Eng
namespace Go.Eng
open Go.RowKit
set_option linter.unusedVariables false
set_option linter.unusedSimpArgs false

def faOp : Op → Bool | .fieldAddr .. => true | _ => false

theorem livePtr_le {H hd : Heap} (h : LeH H hd) {id n : Nat} (hl : livePtr hd id n = true) : livePtr H id n = true := by
  unfold livePtr at hl
  cases hb : hG hd id with
  | none => rw [hb] at hl; cases hl
  | some b =>
    have := h.ok.2 id b (hG_some hb)
    rw [hb] at hl
    unfold livePtr
    rw [show hG H id = some b by rw [hG_eq, this]; rfl]
    exact hl

theorem aFieldAddr_le {E : Env} {H hd : Heap} (h : LeH H hd) {t : TypeId} {f : Nat} {a v : A} (hv : aFieldAddr E hd t f a = some v) : aFieldAddr E H t f a = some v := by
  unfold aFieldAddr at hv ⊢
  split at hv
  · split at hv
    · split at hv
      · split at hv
        · rename_i hl
          rw [if_pos (livePtr_le h hl)]
          exact hv
        · cases hv
      · exact hv
      · cases hv
    · cases hv
  · cases hv

def CResP (w b na fa : Bool) (hd H : Heap) (r : Option (A × Heap)) (K : A → Heap → Prop) : Prop :=
  match w, b, r with
  | true, b, some (v, H') => (b = true ∨ Lh na H' hd) ∧ K v H'
  | false, true, some (v, H') => (na = false ∧ H' = hd ∧ (fa = true ∨ visA hd v = true ∧ visH hd hd = true)) ∧ K v H
  | false, false, some (v, H') => H' = H ∧ K v H
  | _, _, none => False

def hpOf (w b : Bool) (hd H : Heap) : Heap := match w, b with | false, true => hd | _, _ => H

def COps (E : Env) (na : Bool) (hd : Heap) (ds : List (Option Nat)) : List Oper → List Bool → List Bool → List A → Heap → (List A → Heap → Prop) → Prop
  | [], _, _, T, H, Q => Q T H
  | o :: l, w :: wr, b :: am, T, H, Q => GdP (wantA ds T o.guard)
      (OrP (isCall o.op) (DStep E na hd w b T H o fun v H' => COps E na hd ds l wr am (putT T o.dst v) H' Q) (CResP w b na (faOp o.op) hd H (aopW w E T (hpOf w b hd H) o.op) fun v H' => COps E na hd ds l wr am (putT T o.dst v) H' Q))
      (COps E na hd ds l wr am (putT T o.dst .und) H Q)
  | _, _, _, _, _, _ => False

theorem COps.d {E : Env} {na : Bool} {hd : Heap} {ds : List (Option Nat)} : ∀ {l : List Oper} {wr am : List Bool} {T : List A} {H : Heap} {Q : List A → Heap → Prop}, COps E na hd ds l wr am T H Q → DOps E na hd ds l wr am T H Q
  | [], _, _, T, H, Q, h => h
  | o :: l, [], _, T, H, Q, h => h
  | o :: l, w :: wr, [], T, H, Q, h => h
  | o :: l, w :: wr, b :: am, T, H, Q, h => by
    simp only [COps] at h
    simp only [DOps]
    cases hb : wantA ds T o.guard with
    | none => rw [hb] at h; exact h.elim
    | some bw =>
      rw [hb] at h
      refine ⟨fun e => ?_, fun e => COps.d (h.2 e)⟩
      have h := h.1 e
      cases hc : isCall o.op with
      | true =>
        rw [hc] at h
        have h : DStep E na hd w b T H o fun v H' => COps E na hd ds l wr am (putT T o.dst v) H' Q := h
        cases w with
        | true => obtain ⟨v, H', h1, h2, h3⟩ := h; exact ⟨v, H', h1, h2, COps.d h3⟩
        | false => cases b with
          | true => obtain ⟨h0, v, h1, h3⟩ := h; exact ⟨h0, v, h1, COps.d h3⟩
          | false => obtain ⟨v, h1, h3⟩ := h; exact ⟨v, h1, COps.d h3⟩
      | false =>
        rw [hc] at h
        have h : CResP w b na (faOp o.op) hd H (aopW w E T (hpOf w b hd H) o.op) (fun v H' => COps E na hd ds l wr am (putT T o.dst v) H' Q) := h
        cases hr : aopW w E T (hpOf w b hd H) o.op with
        | none => rw [hr] at h; cases w <;> cases b <;> exact h.elim
        | some r =>
          obtain ⟨v, H'⟩ := r
          rw [hr] at h
          cases w with
          | true => exact ⟨v, H', Yld.y (by rw [aopW_t] at hr; cases b <;> exact hr), h.1, COps.d h.2⟩
          | false => cases b with
            | true =>
              obtain ⟨⟨h0, h1, h2⟩, h3⟩ := h
              subst h1
              refine ⟨h0, v, fun H2 hl => ?_, COps.d h3⟩
              rcases h2 with h2 | ⟨h2, h4⟩
              · have hop : ∃ t y f, o.op = .fieldAddr t y f := by
                  cases hoo : o.op <;> rw [hoo] at h2 <;> first | (cases h2; done) | exact ⟨_, _, _, rfl⟩
                obtain ⟨t, y, f, hop⟩ := hop
                refine Yld.y ?_
                rw [hop] at hr ⊢
                simp only [aopW, aop, aop1, hpOf, keep] at hr ⊢
                cases hv : aFieldAddr E H' t f (ev E T y) with
                | none => rw [hv] at hr; cases hr
                | some v' =>
                  rw [hv] at hr
                  cases hr
                  rw [aFieldAddr_le hl hv]
              · exact (aopW_y hr).frame hl h2 h4
            | false =>
              obtain ⟨h1, h3⟩ := h
              subst h1
              exact ⟨v, aopW_y hr, COps.d h3⟩

def CRes (w b fa : Bool) (r : Option (A × Heap)) (E : Env) (na : Bool) (hd : Heap) (ds : List (Option Nat)) (d : Option Nat) (l : List Oper) (wr am : List Bool) (T : List A) (H : Heap) (Q : List A → Heap → Prop) : Prop :=
  CResP w b na fa hd H r fun v H' => COps E na hd ds l wr am (putT T d v) H' Q
def CSt (c : Bool) (E : Env) (na : Bool) (hd : Heap) (ds : List (Option Nat)) (o : Oper) (w b : Bool) (l : List Oper) (wr am : List Bool) (T : List A) (H : Heap) (Q : List A → Heap → Prop) : Prop :=
  OrP c (DStep E na hd w b T H o fun v H' => COps E na hd ds l wr am (putT T o.dst v) H' Q) (CResP w b na (faOp o.op) hd H (aopW w E T (hpOf w b hd H) o.op) fun v H' => COps E na hd ds l wr am (putT T o.dst v) H' Q)
def CGd (g : Option Bool) (E : Env) (na : Bool) (hd : Heap) (ds : List (Option Nat)) (o : Oper) (w b : Bool) (l : List Oper) (wr am : List Bool) (T : List A) (H : Heap) (Q : List A → Heap → Prop) : Prop :=
  GdP g (CSt (isCall o.op) E na hd ds o w b l wr am T H Q) (COps E na hd ds l wr am (putT T o.dst .und) H Q)

section
variable (E : Env) (na : Bool) (hd : Heap) (ds : List (Option Nat)) (o : Oper) (l : List Oper) (w b fa : Bool) (wr am : List Bool) (T : List A) (H H' : Heap) (Q : List A → Heap → Prop)
theorem COps_nil : COps E na hd ds [] wr am T H Q = Q T H := by simp only [COps]
theorem COps_cons : COps E na hd ds (o :: l) (w :: wr) (b :: am) T H Q = CGd (wantA ds T o.guard) E na hd ds o w b l wr am T H Q := propext Iff.rfl
theorem CGd_t : CGd (some true) E na hd ds o w b l wr am T H Q = CSt (isCall o.op) E na hd ds o w b l wr am T H Q := by simp [CGd, GdP]
theorem CGd_f : CGd (some false) E na hd ds o w b l wr am T H Q = COps E na hd ds l wr am (putT T o.dst .und) H Q := by simp [CGd, GdP]
theorem CSt_t : CSt true E na hd ds o w b l wr am T H Q = DStep E na hd w b T H o fun v H' => COps E na hd ds l wr am (putT T o.dst v) H' Q := propext Iff.rfl
theorem CSt_f : CSt false E na hd ds o w b l wr am T H Q = CRes w b (faOp o.op) (aopW w E T (hpOf w b hd H) o.op) E na hd ds o.dst l wr am T H Q := propext Iff.rfl
theorem CRes_w (v : A) (d : Option Nat) : CRes true b fa (some (v, H')) E na hd ds d l wr am T H Q = ((b = true ∨ Lh na H' hd) ∧ COps E na hd ds l wr am (putT T d v) H' Q) := propext Iff.rfl
theorem CRes_a (v : A) (d : Option Nat) : CRes false true fa (some (v, H')) E na hd ds d l wr am T H Q = ((na = false ∧ H' = hd ∧ (fa = true ∨ visA hd v = true ∧ visH hd hd = true)) ∧ COps E na hd ds l wr am (putT T d v) H Q) := propext Iff.rfl
theorem CRes_q (v : A) (d : Option Nat) : CRes false false fa (some (v, H')) E na hd ds d l wr am T H Q = (H' = H ∧ COps E na hd ds l wr am (putT T d v) H Q) := propext Iff.rfl
theorem Lh_t : Lh true H hd = True := by simp [Lh]
theorem Lh_f : Lh false H hd = LeH H hd := by simp [Lh]
theorem CGd_b {E : Env} {na : Bool} {hd : Heap} {ds : List (Option Nat)} {o : Oper} {l : List Oper} {w b : Bool} {wr am : List Bool} {T : List A} {H : Heap} {Q : List A → Heap → Prop} {g : Bool}
    (h1 : g = true → CSt (isCall o.op) E na hd ds o w b l wr am T H Q) (h2 : g = false → COps E na hd ds l wr am (putT T o.dst .und) H Q) : CGd (some g) E na hd ds o w b l wr am T H Q := ⟨h1, h2⟩
theorem CGd_nb {E : Env} {na : Bool} {hd : Heap} {ds : List (Option Nat)} {o : Oper} {l : List Oper} {w b : Bool} {wr am : List Bool} {T : List A} {H : Heap} {Q : List A → Heap → Prop} {g : Bool}
    (h1 : g = false → CSt (isCall o.op) E na hd ds o w b l wr am T H Q) (h2 : g = true → COps E na hd ds l wr am (putT T o.dst .und) H Q) : CGd (some (!g)) E na hd ds o w b l wr am T H Q := ⟨fun h => h1 (by simpa using h), fun h => h2 (by simpa using h)⟩
theorem Gd_nb {E : Env} {ds : List (Option Nat)} {o : Oper} {l : List Oper} {T : List A} {H : Heap} {Q : List A → Heap → Prop} {b : Bool} (h1 : b = false → St (isCall o.op) E ds o l T H Q) (h2 : b = true → AOps E ds l (putT T o.dst .und) H Q) :
    Gd (some (!b)) E ds o l T H Q := ⟨fun h => h1 (by simpa using h), fun h => h2 (by simpa using h)⟩
end

@[congr] theorem COps_congr {E : Env} {na : Bool} {hd : Heap} {ds ds' : List (Option Nat)} {l : List Oper} {wr am : List Bool} {T T' : List A} {H H' : Heap} {Q : List A → Heap → Prop} (h1 : ds = ds') (hT : T = T') (hH : H = H') : COps E na hd ds l wr am T H Q = COps E na hd ds' l wr am T' H' Q := by rw [h1, hT, hH]

theorem awp_drawn {E : Env} {T : List A} {H : Heap} {Q : Exit → List A → Heap → Prop} {m id : Nat} {ops : Array Oper} (wr : List Bool) (hrg : rgOk ops.toList wr (ops.toList.map fun _ => false) = true)
    (h : COps E true [] (dsts ops.toList) ops.toList wr (ops.toList.map fun _ => false) T H (Q .normal)) : AWP E (.region id ops true) T H Q m :=
  awp_draw wr _ true [] hrg (.inl rfl) h.d
theorem awp_drawh {E : Env} {T : List A} {H : Heap} {Q : Exit → List A → Heap → Prop} {m id : Nat} {ops : Array Oper} (wr am : List Bool) (hd : Heap) (hrg : rgOk ops.toList wr am = true) (hle : LeH H hd)
    (h : COps E false hd (dsts ops.toList) ops.toList wr am T H (Q .normal)) : AWP E (.region id ops true) T H Q m :=
  awp_draw wr am false hd hrg (.inr hle) h.d

theorem dcallQ {E : Env} {na b : Bool} {hd : Heap} {T : List A} {H : Heap} {o : Oper} {K : A → Heap → Prop} {f : FuncId} {al : List A} {rl : A} (hf : AFn E f al [] rl []) {fo : Operand} {as : Array Operand}
    (ho : opIs o fo as) (hfo : ev E T fo = .c (.clo (.func f) [])) (hargs : as.toList.map (ev E T) = al) (hr : ∀ g, renA g rl = rl) (ha : ∀ g, renAs g al = al) (hoA : okAs 0 al = true) (hv : b = true → na = false ∧ visA hd rl = true) (hk : K rl H) : DStep E na hd false b T H o K := by
  have h : ∀ H, OpY E T H o rl H := fun H => by
    have := callY (E := E) (T := T) (H := H) [] hf ho hfo (caps := []) (by rw [ha]; simpa using hargs) (by simp) (by simp) rfl (by simp) hoA rfl
    rw [hr] at this
    simpa [mrg] using this
  cases b with
  | true => exact ⟨(hv rfl).1, rl, fun H2 _ => h H2, hk⟩
  | false => exact ⟨rl, h H, hk⟩

attribute [go_sem] faOp aopW_t aopW fzQ fzQ.cutL
attribute [go_sem] COps_nil COps_cons CGd_t CGd_f CSt_t CSt_f CRes_w CRes_a CRes_q Lh_t Lh_f hpOf visA visAs visC visCs
end Go.Eng
namespace Go.Eng
open Go.RowKit
set_option linter.unusedVariables false
set_option linter.unusedSimpArgs false

def mapC {α : Type} (c : α) : Option (List α) → Option (List α) | some r => some (c :: r) | none => none
def mapP {α β : Type} (d : α) : Option (List α × β) → Option (List α × β) | some (l, h) => some (d :: l, h) | none => none
theorem mapC_s {α : Type} (c : α) (r : List α) : mapC c (some r) = some (c :: r) := rfl
theorem mapC_n {α : Type} (c : α) : mapC c none = none := rfl
theorem mapP_s {α β : Type} (d : α) (r : List α) (h : β) : mapP d (some (r, h)) = some (d :: r, h) := rfl
theorem mapP_n {α β : Type} (d : α) : mapP (β := β) d none = none := rfl

theorem cutC_0 (l : List C) : cutC 0 0 l = some [] := by cases l <;> rfl
theorem cutC_1 (n : Nat) (c : C) (l : List C) : cutC 0 (n + 1) (c :: l) = mapC c (cutC 0 n l) := by simp only [cutC]; cases cutC 0 n l <;> rfl
theorem cutC_2 (o n : Nat) (c : C) (l : List C) : cutC (o + 1) n (c :: l) = cutC o n l := by simp only [cutC]
theorem splC_0 {α : Type} (l : List α) : splC 0 [] l = some l := by cases l <;> rfl
theorem splC_1 {α : Type} (n c : α) (ns l : List α) : splC 0 (n :: ns) (c :: l) = mapC n (splC 0 ns l) := by simp only [splC]; cases splC 0 ns l <;> rfl
theorem splC_2 {α : Type} (o : Nat) (c : α) (ns l : List α) : splC (o + 1) ns (c :: l) = mapC c (splC o ns l) := by cases ns <;> (simp only [splC]; cases splC o _ l <;> rfl)

theorem toDs_n (H : Heap) : toDs H [] = some ([], H) := rfl
theorem toDs_d (H : Heap) (x : D) (l : List C) : toDs H (.d x :: l) = mapP x (toDs H l) := by simp only [toDs, toD]; cases toDs H l <;> rfl
theorem toDs_ni (H : Heap) (l : List C) : toDs H (.nils :: l) = mapP (.fz []) (toDs H l) := by simp only [toDs, toD]; cases toDs H l <;> rfl
def toDsA (H : Heap) (l : List C) (id off len n : Nat) : Option Blk → Option (List D × Heap)
  | some (.rows s rs _) => if n = rs.length ∧ off + len ≤ n then mapP (.fz (subR off len n rs)) (toDs (hP H id none) l) else none
  | _ => none
theorem toDs_o (H : Heap) (id off len n : Nat) (l : List C) : toDs H (.own id off len n :: l) = toDsA H l id off len n (hG H id) := by
  simp only [toDs, toD, toDsA]
  cases hG H id with
  | none => rfl
  | some b =>
    cases b with
    | box cs => rfl
    | mp es => rfl
    | raw r => rfl
    | rows s rs =>
      by_cases hc : n = rs.length ∧ off + len ≤ n
      · simp only [if_pos hc]; cases toDs (hP H id none) l <;> rfl
      · simp only [if_neg hc]
theorem toDsA_s (H : Heap) (l : List C) (id off len n s : Nat) (rs : List (List D)) (ty : Option TypeId) : toDsA H l id off len n (some (.rows s rs ty)) = if n = rs.length ∧ off + len ≤ n then mapP (.fz (subR off len n rs)) (toDs (hP H id none) l) else none := rfl

def rowsB (n k : Nat) (l : List (Nat × A)) : Option (List D × Heap) → Option (List (List D) × Heap)
  | some (ds, H1) => mapP ds (rowsOf H1 n (k + 1) l)
  | none => none
def rowsA (H : Heap) (n k : Nat) (l : List (Nat × A)) : Option (List C) → Option (List (List D) × Heap)
  | some cs => if cs.length = n then rowsB n k l (toDs H cs) else none
  | none => none
theorem rowsB_s (n k : Nat) (l : List (Nat × A)) (ds : List D) (H : Heap) : rowsB n k l (some (ds, H)) = mapP ds (rowsOf H n (k + 1) l) := rfl
theorem rowsA_s (H : Heap) (n k : Nat) (l : List (Nat × A)) (cs : List C) : rowsA H n k l (some cs) = if cs.length = n then rowsB n k l (toDs H cs) else none := rfl
theorem rowsOf_n (H : Heap) (n k : Nat) : rowsOf H n k [] = some ([], H) := rfl
theorem rowsOf_c (H : Heap) (n k i : Nat) (a : A) (l : List (Nat × A)) : rowsOf H n k ((i, a) :: l) = if i = k then rowsA H n k l (cellsOf a) else none := by
  simp only [rowsOf]
  split
  · cases hc : cellsOf a with
    | none => rfl
    | some cs =>
      simp only [rowsA]
      split
      · cases hd : toDs H cs with
        | none => rfl
        | some p =>
          obtain ⟨ds, H1⟩ := p
          simp only [rowsB]
          cases rowsOf H1 n (k + 1) l <;> rfl
      · rfl
  · rfl

def bsB (len n : Nat) : Option (List (List D) × Heap) → Option (A × Heap)
  | some (rs, H1) => some (.c (.own H1.length 0 len len), H1 ++ [some (.rows (n + 1) rs)])
  | none => none
def bsA (H : Heap) (len : Nat) (ps : List (Nat × A)) : Option Nat → Option (A × Heap)
  | some (n + 1) => if len = ps.length ∧ len * (n + 1) ≤ 16777216 then bsB len n (rowsOf H (n + 1) 0 ps) else none
  | _ => none
def bsE (E : Env) (H : Heap) (len : Nat) (ps : List (Nat × A)) : Option TypeId → Option (A × Heap)
  | some e => bsA H len ps (E.size e)
  | none => none
theorem bsB_s (len n : Nat) (rs : List (List D)) (H : Heap) : bsB len n (some (rs, H)) = some (.c (.own H.length 0 len len), H ++ [some (.rows (n + 1) rs)]) := rfl
theorem bsA_s (H : Heap) (len : Nat) (ps : List (Nat × A)) (n : Nat) : bsA H len ps (some (n + 1)) = if len = ps.length ∧ len * (n + 1) ≤ 16777216 then bsB len n (rowsOf H (n + 1) 0 ps) else none := rfl
theorem bsE_s (E : Env) (H : Heap) (len : Nat) (ps : List (Nat × A)) (e : TypeId) : bsE E H len ps (some e) = bsA H len ps (E.size e) := rfl
theorem aBuildSlice_eq (E : Env) (H : Heap) (t : TypeId) (len : Nat) (ps : List (Nat × A)) : aBuildSlice E H t len ps = bsE E H len ps (E.elt t) := by
  unfold aBuildSlice bsE
  cases E.elt t with
  | none => rfl
  | some e =>
    simp only
    unfold bsA
    cases E.size e with
    | none => rfl
    | some n =>
      cases n with
      | zero => rfl
      | succ n =>
        simp only
        split
        · cases rowsOf H (n + 1) 0 ps with
          | none => rfl
          | some p => rfl
        · rfl

def fillD (E : Env) (t : TypeId) (l : List (Nat × A)) : Option (List C) → Option (List C)
  | some r => fillC E t l r
  | none => none
def fillB (E : Env) (t : TypeId) (l : List (Nat × A)) (cs : List C) (off : Nat) : Option (List C) → Option Nat → Option (List C)
  | some ns, some n => if ns.length = n then fillD E t l (splC off ns cs) else none
  | _, _ => none
def fillA (E : Env) (t : TypeId) (l : List (Nat × A)) (cs : List C) (a : A) : Option (Nat × TypeId) → Option (List C)
  | some (off, ft) => fillB E t l cs off (cellsOf a) (E.size ft)
  | none => none
theorem fillD_s (E : Env) (t : TypeId) (l : List (Nat × A)) (r : List C) : fillD E t l (some r) = fillC E t l r := rfl
theorem fillB_s (E : Env) (t : TypeId) (l : List (Nat × A)) (cs ns : List C) (off n : Nat) : fillB E t l cs off (some ns) (some n) = if ns.length = n then fillD E t l (splC off ns cs) else none := rfl
theorem fillA_s (E : Env) (t : TypeId) (l : List (Nat × A)) (cs : List C) (a : A) (off : Nat) (ft : TypeId) : fillA E t l cs a (some (off, ft)) = fillB E t l cs off (cellsOf a) (E.size ft) := rfl
theorem fillC_n (E : Env) (t : TypeId) (cs : List C) : fillC E t [] cs = some cs := rfl
theorem fillC_c (E : Env) (t : TypeId) (f : Nat) (a : A) (l : List (Nat × A)) (cs : List C) : fillC E t ((f, a) :: l) cs = fillA E t l cs a (E.fld t f) := by
  simp only [fillC]
  unfold fillA
  cases E.fld t f with
  | none => rfl
  | some p =>
    obtain ⟨off, ft⟩ := p
    simp only
    unfold fillB
    cases cellsOf a with
    | none => rfl
    | some ns =>
      cases E.size ft with
      | none => rfl
      | some n =>
        simp only
        split
        · unfold fillD; cases splC off ns cs <;> rfl
        · rfl
def buildC : Option (List C) → Option A
  | some r => some (.agg r)
  | none => none
def buildB (E : Env) (t : TypeId) (ps : List (Nat × A)) : Option (List C) → Option A
  | some cs => buildC (fillC E t ps cs)
  | none => none
def buildA (E : Env) (t : TypeId) (ps : List (Nat × A)) : Option (Nat × Nat × Value) → Option A
  | some (_, _, z) => buildB E t ps (cellsOf (cvA z))
  | none => none
theorem buildC_s (r : List C) : buildC (some r) = some (.agg r) := rfl
theorem buildB_s (E : Env) (t : TypeId) (ps : List (Nat × A)) (cs : List C) : buildB E t ps (some cs) = buildC (fillC E t ps cs) := rfl
theorem buildA_s (E : Env) (t : TypeId) (ps : List (Nat × A)) (p q : Nat) (z : Value) : buildA E t ps (some (p, q, z)) = buildB E t ps (cellsOf (cvA z)) := rfl
theorem aBuild_eq (E : Env) (t : TypeId) (ps : List (Nat × A)) : aBuild E t ps = buildA E t ps (E.inf t) := by
  unfold aBuild buildA
  cases E.inf t with
  | none => rfl
  | some p =>
    obtain ⟨p, q, z⟩ := p
    simp only
    unfold buildB
    cases cellsOf (cvA z) with
    | none => rfl
    | some cs => simp only; unfold buildC; cases fillC E t ps cs <;> rfl

theorem frCs_n (m : Nat) (H : Heap) : frCs m H [] = some ([], H) := rfl
def frCsA (m : Nat) (l : List C) : Option (C × Heap) → Option (List C × Heap)
  | some (c', H1) => mapP c' (frCs m H1 l)
  | none => none
theorem frCsA_s (m : Nat) (l : List C) (c : C) (H : Heap) : frCsA m l (some (c, H)) = mapP c (frCs m H l) := rfl
theorem frCs_c (m : Nat) (H : Heap) (c : C) (l : List C) : frCs m H (c :: l) = frCsA m l (frC m H c) := by
  simp only [frCs]
  cases frC m H c with
  | none => rfl
  | some p => obtain ⟨c', H1⟩ := p; simp only [frCsA]; cases frCs m H1 l <;> rfl
def mapA1 : Option (C × Heap) → Option (A × Heap) | some (c, H) => some (.c c, H) | none => none
def mapA2 : Option (List C × Heap) → Option (A × Heap) | some (c, H) => some (.agg c, H) | none => none
def mapA3 : Option (List A × Heap) → Option (A × Heap) | some (c, H) => some (.tup c, H) | none => none
theorem mapA1_s (c : C) (H : Heap) : mapA1 (some (c, H)) = some (.c c, H) := rfl
theorem mapA2_s (c : List C) (H : Heap) : mapA2 (some (c, H)) = some (.agg c, H) := rfl
theorem mapA3_s (c : List A) (H : Heap) : mapA3 (some (c, H)) = some (.tup c, H) := rfl
theorem frA_c (m : Nat) (H : Heap) (c : C) : frA m H (.c c) = mapA1 (frC m H c) := by simp only [frA, mapA1] <;> cases frC m H c <;> rfl
theorem frA_a (m : Nat) (H : Heap) (c : List C) : frA m H (.agg c) = mapA2 (frCs m H c) := by simp only [frA, mapA2] <;> cases frCs m H c <;> rfl
theorem frA_t (m : Nat) (H : Heap) (c : List A) : frA m H (.tup c) = mapA3 (frAs m H c) := by simp only [frA, mapA3] <;> cases frAs m H c <;> rfl
theorem frA_u (m : Nat) (H : Heap) : frA m H .und = some (.und, H) := by simp only [frA]
theorem frA_y (m : Nat) (H : Heap) : frA m H .any = some (.any, H) := by simp only [frA]
theorem frAs_n (m : Nat) (H : Heap) : frAs m H [] = some ([], H) := by simp only [frAs]
def frAsA (m : Nat) (l : List A) : Option (A × Heap) → Option (List A × Heap)
  | some (c', H1) => mapP c' (frAs m H1 l)
  | none => none
theorem frAsA_s (m : Nat) (l : List A) (c : A) (H : Heap) : frAsA m l (some (c, H)) = mapP c (frAs m H l) := rfl
theorem frAs_c (m : Nat) (H : Heap) (c : A) (l : List A) : frAs m H (c :: l) = frAsA m l (frA m H c) := by
  simp only [frAs]
  cases frA m H c with
  | none => rfl
  | some p => obtain ⟨c', H1⟩ := p; simp only [frAsA]; cases frAs m H1 l <;> rfl
def resC : Option A → Option (List A) → Option (List A)
  | some v, some r => some (v :: r)
  | _, _ => none
theorem resC_s (v : A) (r : List A) : resC (some v) (some r) = some (v :: r) := rfl
theorem resA_n (E : Env) (T : List A) (H : Heap) : resA E T H [] = some [] := rfl
theorem resA_t (E : Env) (T : List A) (H : Heap) (t : Nat) (l : List ResultVar) : resA E T H (.tmp t :: l) = mapC (gT T t) (resA E T H l) := by simp only [resA]; cases resA E T H l <;> rfl
theorem resA_c (E : Env) (T : List A) (H : Heap) (p : Nat) (t : TypeId) (l : List ResultVar) : resA E T H (.cell p t :: l) = resC (aLoad E H t (gT T p)) (resA E T H l) := by
  simp only [resA]; cases aLoad E H t (gT T p) <;> cases resA E T H l <;> rfl
theorem capsOf_n : capsOf [] = some [] := rfl
theorem capsOf_c (c : C) (l : List A) : capsOf (.c c :: l) = mapC c (capsOf l) := by simp only [capsOf]; cases capsOf l <;> rfl
def zRowA (v : D) : Option (List D) → Option (List D) | some r => some (v :: r) | none => none
theorem zRow_n : zRow [] = some [] := rfl
theorem zRow_s (l : List Value) : zRow (.slice none 0 0 :: l) = mapC (.fz []) (zRow l) := by simp only [zRow]; cases zRow l <;> rfl
theorem zRow_i (k : IntKind) (n : Int) (l : List Value) : zRow (.int k n :: l) = mapC (.sc (.int k n)) (zRow l) := by simp only [zRow]; cases zRow l <;> rfl
theorem zRow_b (n : Bool) (l : List Value) : zRow (.bool n :: l) = mapC (.sc (.bool n)) (zRow l) := by simp only [zRow]; cases zRow l <;> rfl
theorem zRow_t (n : ByteArray) (l : List Value) : zRow (.string n :: l) = mapC (.sc (.string n)) (zRow l) := by simp only [zRow]; cases zRow l <;> rfl
theorem zRow_p (n : Option Addr) (l : List Value) : zRow (.pointer n :: l) = mapC (.sc (.pointer n)) (zRow l) := by simp only [zRow]; cases zRow l <;> rfl
theorem nxA_n (x : Option A) : nxA none x = x := by cases x <;> rfl
theorem nxA_s (j : Nat) (cs : List C) : nxA (some j) (some (.agg cs)) = some (.agg (nxC cs j)) := rfl
theorem nxC_0 (l : List C) : nxC (.nils :: l) 0 = .d (.sc (.slice none 0 0)) :: l := rfl
theorem nxC_d (x : D) (l : List C) : nxC (.d x :: l) 0 = .d x :: l := rfl
theorem nxC_s (c : C) (l : List C) (n : Nat) : nxC (c :: l) (n + 1) = c :: nxC l n := by cases c <;> rfl
theorem nxC_2 (a b c : C) (l : List C) : nxC (a :: b :: c :: l) 2 = a :: b :: nxC (c :: l) 0 := by rw [nxC_s, nxC_s]
attribute [go_sem] nxA_n nxA_s nxC_0 nxC_d nxC_2
attribute [go_sem] mapC_s mapC_n mapP_s mapP_n cutC_0 cutC_1 cutC_2 splC_0 splC_1 splC_2 toDs_n toDs_d toDs_ni toDs_o toDsA_s rowsB_s rowsA_s rowsOf_n rowsOf_c bsB_s bsA_s bsE_s aBuildSlice_eq fillD_s fillB_s fillA_s fillC_n fillC_c buildC_s buildB_s buildA_s aBuild_eq
  frCs_n frCsA_s frCs_c mapA1_s mapA2_s mapA3_s frA_c frA_a frA_t frA_u frA_y frAs_n frAsA_s frAs_c resC_s resA_n resA_t resA_c capsOf_n capsOf_c zRow_n zRow_s zRow_i zRow_b zRow_t zRow_p

theorem bl_mk (a : Array UInt8) : bl ⟨a⟩ = a.toList := rfl
theorem beqL (a b : List UInt8) : (a == b) = decide (a = b) := by by_cases h : a = b <;> simp [h]
theorem beqI (a b : Int) : (a == b) = decide (a = b) := by by_cases h : a = b <;> simp [h]
theorem bneI (a b : Int) : (a != b) = !decide (a = b) := by simp only [bne, beqI]
attribute [go_sem] aLookup aMapUpdate putB aMakeMap mapOf aEqS eqAgg eqInts
attribute [go_sem] bl_st bl_mk List.toList_toArray renA renC renAs renCs beqL beqI bneI

theorem fin_r {E : Env} {rs : List ResultVar} {l : List A} {T : List A} {H H1 H' : Heap} {m : Nat} {r r0 : A} (h5 : r0 = r) (h1 : resA E T H rs = some l := by (simp (disch := omega) only [go_sem]; first | done | rfl)) (h2 : frA m H (oneRes l) = some (r0, H1) := by (simp only [go_sem]; first | done | rfl)) (h3 : okR m r0 = true := by (simp only [go_sem]; first | done | fail))
    (hm : m ≤ H.length := by (first | decide | (simp only [go_sem]; first | done | omega | fail))) (h4 : cutH m m H1 = H' := by (simp only [go_sem]; first | done | rfl)) : Fin E rs r H' m .ret T H := fin_ret h1 h2 h3 hm h4 h5
theorem fin_n {E : Env} {rs : List ResultVar} {l : List A} {T : List A} {H H1 H' : Heap} {m : Nat} {r r0 : A} (h5 : r0 = r) (h1 : resA E T H rs = some l := by (simp (disch := omega) only [go_sem]; first | done | rfl)) (h2 : frA m H (oneRes l) = some (r0, H1) := by (simp only [go_sem]; first | done | rfl)) (h3 : okR m r0 = true := by (simp only [go_sem]; first | done | fail))
    (hm : m ≤ H.length := by (first | decide | (simp only [go_sem]; first | done | omega | fail))) (h4 : cutH m m H1 = H' := by (simp only [go_sem]; first | done | rfl)) : Fin E rs r H' m .normal T H := fin_norm h1 h2 h3 hm h4 h5

theorem callP {E : Env} {T : List A} {H : Heap} {o : Oper} {K : A → Heap → Prop} {f : FuncId} {al : List A} {fo : Operand} {as : Array Operand}
    (ho : opIs o fo as) (hfo : ev E T fo = .c (.clo (.func f) [])) (hargs : as.toList.map (ev E T) = al) (h : ∃ rl, AFn E f al [] rl [] ∧ (∀ g, renA g rl = rl) ∧ (∀ g, renAs g al = al) ∧ okAs 0 al = true ∧ K rl H) : CallK E T H o K := by
  obtain ⟨rl, hf, hr, ha, hoA, hk⟩ := h
  exact callD hf ho hfo hargs hr ha hoA hk

section
variable {E : Env} {ds : List (Option Nat)} {o : Oper} {l : List Oper} {T : List A} {H : Heap} {Q : List A → Heap → Prop}
theorem Gd_d {p : Prop} {inst : Decidable p} (h1 : p → @decide p inst = true → St (isCall o.op) E ds o l T H Q) (h2 : ¬ p → @decide p inst = false → AOps E ds l (putT T o.dst .und) H Q) : Gd (some (decide p)) E ds o l T H Q := Gd_b (fun h => h1 (of_decide_eq_true h) h) (fun h => h2 (of_decide_eq_false h) h)
theorem Gd_nd {p : Prop} {inst : Decidable p} (h1 : ¬ p → @decide p inst = false → St (isCall o.op) E ds o l T H Q) (h2 : p → @decide p inst = true → AOps E ds l (putT T o.dst .und) H Q) : Gd (some (!decide p)) E ds o l T H Q := Gd_nb (fun h => h1 (of_decide_eq_false h) h) (fun h => h2 (of_decide_eq_true h) h)
theorem Res_id {r : Option (A × Heap)} {d : Option Nat} (h : Res r E ds d l T Q) : Res r E ds d l T Q := h
theorem Res_of {r : Option (A × Heap)} {v : A} {H' : Heap} {d : Option Nat} (h : r = some (v, H')) (h2 : AOps E ds l (putT T d v) H' Q) : Res r E ds d l T Q := by subst h; exact h2
end
section
variable {E : Env} {T : List A} {H : Heap} {Q : Exit → List A → Heap → Prop} {m : Nat} {c : Operand} {x y : Code}
theorem cond_d {p : Prop} {inst : Decidable p} (hc : ofBool (ev E T c) = some (decide p)) (h1 : p → @decide p inst = true → AWP E x T H Q m) (h2 : ¬ p → @decide p inst = false → AWP E y T H Q m) : AWP E (.cond c x y) T H Q m := awp_cond hc (fun h => h1 (of_decide_eq_true h) h) (fun h => h2 (of_decide_eq_false h) h)
theorem cond_nd {p : Prop} {inst : Decidable p} (hc : ofBool (ev E T c) = some (!decide p)) (h1 : ¬ p → @decide p inst = false → AWP E x T H Q m) (h2 : p → @decide p inst = true → AWP E y T H Q m) : AWP E (.cond c x y) T H Q m := awp_cond hc (fun h => h1 (by simpa using h) (by simpa using h)) (fun h => h2 (by simpa using h) (by simpa using h))
theorem cond_nb {b : Bool} (hc : ofBool (ev E T c) = some (!b)) (h1 : b = false → AWP E x T H Q m) (h2 : b = true → AWP E y T H Q m) : AWP E (.cond c x y) T H Q m := awp_cond hc (fun h => h1 (by simpa using h)) (fun h => h2 (by simpa using h))
end

theorem wrap64 {x : Int} (h1 : -9223372036854775808 ≤ x) (h2 : x ≤ 9223372036854775807) : IntKind.i64.wrap x = x := by
  have hs : IntKind.signed .i64 = true := rfl
  have hb : IntKind.bits .i64 = 64 := rfl
  simp only [IntKind.wrap, hs, hb, Bool.true_and, decide_eq_true_eq]
  split <;> omega
theorem wrapu8 {x : Int} (h1 : 0 ≤ x) (h2 : x ≤ 255) : IntKind.u8.wrap x = x := by
  have hs : IntKind.signed .u8 = false := rfl
  have hb : IntKind.bits .u8 = 8 := rfl
  simp only [IntKind.wrap, hs, hb, Bool.false_and, Bool.false_eq_true, if_false]
  omega
end Go.Eng
namespace Go.Eng
open Go.RowKit
set_option linter.unusedVariables false
set_option linter.unusedSimpArgs false

theorem callF {E : Env} {T : List A} {H H1 : Heap} {o : Oper} {K : A → Heap → Prop} {f : FuncId} {al : List A} {fo : Operand} {as : Array Operand}
    (ho : opIs o fo as) (hfo : ev E T fo = .c (.clo (.func f) [])) (hz : frAs 0 H (as.toList.map (ev E T)) = some (al, H1))
    (h : ∃ rl, AFn E f al [] rl [] ∧ (∀ g, renA g rl = rl) ∧ (∀ g, renAs g al = al) ∧ okAs 0 al = true ∧ K rl H1) : CallK E T H o K := by
  obtain ⟨rl, hf, hr, ha, hoA, hk⟩ := h
  refine ⟨_, _, ?_, hk⟩
  intro B a w K' Q hB hs hk'
  obtain ⟨hd, x, O, rfl, hR, hT⟩ := hs
  obtain ⟨ts, ho⟩ := ho
  have he : ∀ y, VA x (ev E T y) (a.eval y) := fun y => hT.eval (fun g => hR.glob hB g) y
  have hfe := VA.inv (hfo ▸ he fo)
  generalize hfv : a.eval fo = fv at hfe
  cases hfe with | clo _ _ cvs u hl hu hv =>
  have hcv : cvs = #[] := Array.eq_empty_of_size_eq_zero (by simpa using hl)
  subst hcv
  have hrun : (execOp a.eval o).run E.P x.w = .ok (.enter f (as.map a.eval)) x.w := by
    unfold execOp
    rw [ho]
    simp only [resolve, hfv, Deferred.ofValue, invoke, pure_bind, Array.empty_append, Array.append_empty, Sem.run_bind, Sem.run_pure, Result.andThen_ok, callFunc_run hf.1]
  obtain ⟨y, O1, e1, l1, R1, len1, V1, n1⟩ := frAs_ok (vs := (as.map a.eval).toList) hR (by simp) (fun i c hc => by
    rw [List.getElem?_map, Option.map_eq_some_iff] at hc
    obtain ⟨q, hq, rfl⟩ := hc
    exact ⟨a.eval q, by simp [hq], he q⟩) hz
  have hargs' : TR y (renAs (gl [] H1.length) al) (as.map a.eval) := by
    rw [ha]
    refine ⟨by simpa using len1.symm, fun i c hc => ?_⟩
    obtain ⟨u, h1, h2⟩ := V1 i c hc
    exact ⟨u, by simpa using h1, h2⟩
  unfold Oper.wp
  rw [hrun]
  show Calls _ _ _ _ _
  rw [← e1]
  refine Calls.mono (call_ok (r := id) (args := id) (sel := []) hf hB R1 (by simp) (by simp) rfl (by simp) hoA rfl hargs') ?_
  rintro e w' ⟨v, rfl, z, O', rfl, hle, hR', hv'⟩
  rw [hr] at hv'
  have hm : mrg (gl [] H1.length) [] [] H1 = H1 := by simp [mrg]
  rw [hm] at hR'
  exact hk' _ _ ⟨by cases hdst : o.dst <;> simp [Act.put, hd], z, O', rfl, hR', (hT.mono (l1.trans hle)).put o.dst hv'⟩

def hB (H : Heap) (s : Nat) : Option Blk := match H[s]? with | some b => b | none => none
def chk : List Nat → Nat → Bool
  | [], _ => true
  | s :: l, L => decide (s < L) && !(l.contains s) && chk l L
theorem chk_ok : ∀ {l : List Nat} {L : Nat}, chk l L = true → l.Nodup ∧ ∀ s ∈ l, s < L
  | [], L, _ => ⟨by simp, by simp⟩
  | s :: l, L, h => by
    simp only [chk, Bool.and_eq_true, decide_eq_true_eq, Bool.not_eq_true'] at h
    obtain ⟨⟨h1, h2⟩, h3⟩ := h
    obtain ⟨h4, h5⟩ := chk_ok h3
    refine ⟨List.nodup_cons.2 ⟨fun hm => ?_, h4⟩, fun t ht => ?_⟩
    · have : l.contains s = true := List.contains_iff_mem.2 hm
      rw [h2] at this; cases this
    · rcases List.mem_cons.1 ht with rfl | ht
      · exact h1
      · exact h5 t ht

theorem callS {E : Env} {T : List A} {H : Heap} {o : Oper} {K : A → Heap → Prop} (sel : List Nat) {f : FuncId} {al : List A} {Hl Hl' : Heap} {rl : A} (hf : AFn E f al Hl rl Hl') {fo : Operand} {as : Array Operand} {caps : List C}
    (ho : opIs o fo as) (hfo : ev E T fo = .c (.clo (.func f) caps)) (hargs : as.toList.map (ev E T) ++ caps.map .c = renAs (gl sel H.length) al)
    (hc : chk sel H.length = true) (hH : Hl.map (renB (gl sel H.length)) = sel.map (hB H))
    (hoA : okAs Hl.length al = true) (hoH : okH Hl.length Hl = true) (hk : K (renA (gl sel H.length) rl) (mrg (gl sel H.length) sel Hl' H)) : CallK E T H o K := by
  obtain ⟨h1, h2⟩ := chk_ok hc
  refine callK sel hf ho hfo hargs h1 h2 (by simpa using congrArg List.length hH) (fun k b hk => ?_) hoA hoH hk
  have h3 : (Hl.map (renB (gl sel H.length)))[k]? = some (renB (gl sel H.length) b) := by simp [hk]
  rw [hH, List.getElem?_map, Option.map_eq_some_iff] at h3
  obtain ⟨s, hs, he⟩ := h3
  have hg : gl sel H.length k = s := by simp only [gl, hs]
  rw [hg, ← he]
  have hlt := h2 s (List.mem_of_getElem? hs)
  simp [hB, List.getElem?_eq_getElem hlt]

attribute [go_sem] gl mrg renB hB List.range List.range.loop
end Go.Eng
namespace Go.Eng
open Go.RowKit
set_option linter.unusedVariables false
set_option linter.unusedSimpArgs false

section
variable {E : Env} {T : List A} {H : Heap} {Q Q' : Exit → List A → Heap → Prop} {m : Nat}
theorem awp_cutS {α : Type} {c d : Code} (I : α → Prop) (f : α → List (Nat × A)) (h : α → Heap) (h1 : AWP E c T H (Sq (fun T' H' => ∃ j, I j ∧ Wk m T' H' (updT (f j) (clrT (codeDsts c) T)) (h j)) Q') m)
    (h2 : ∀ i, I i → AWP E d (updT (f i) (clrT (codeDsts c) T)) (h i) Q m) : AWP E c T H (Sq (fun T' H' => AWP E d T' H' Q m) Q') m := by
  intro B a w hB hm hs
  refine wp_mono (h1 B a w hB hm hs) ?_
  rintro e a' w' ⟨T', H', hq, hs'⟩
  cases e with
  | normal =>
    obtain ⟨j, hj, hw⟩ := hq
    exact ⟨_, _, fun B a w hB hm hs => h2 j hj B a w hB hm hs, hw B a' w' hm hs'⟩
  | _ => exact ⟨T', H', hq, hs'⟩

end

def wrOp : Op → Bool
  | .store .. => true
  | .alloc .. => true
  | .box .. => true
  | .buildSlice .. => true
  | .makeSlice .. => true
  | .makeMap .. => true
  | .mapUpdate .. => true
  | .call { callee := .builtin .append, .. } => true
  | _ => false

theorem awp_drawnA {E : Env} {T : List A} {H : Heap} {Q : Exit → List A → Heap → Prop} {m id : Nat} {ops : Array Oper} (hrg : rgOk ops.toList (ops.toList.map fun o => wrOp o.op) (ops.toList.map fun _ => false) = true)
    (h : COps E true [] (dsts ops.toList) ops.toList (ops.toList.map fun o => wrOp o.op) (ops.toList.map fun _ => false) T H (Q .normal)) : AWP E (.region id ops true) T H Q m := awp_drawn _ hrg h

def hideH : List Bool → Heap → Heap
  | true :: m, _ :: l => none :: hideH m l
  | false :: m, b :: l => b :: hideH m l
  | [], l => l
  | _ :: _, [] => []
theorem LeB_refl (b : Option Blk) : LeB b b := by cases b with
  | none => trivial
  | some b => rfl
theorem LeH_refl : ∀ H : Heap, LeH H H
  | [] => trivial
  | b :: l => ⟨LeB_refl b, LeH_refl l⟩
theorem hideH_le : ∀ (m : List Bool) (H : Heap), LeH H (hideH m H)
  | true :: m, b :: l => ⟨by cases b <;> trivial, hideH_le m l⟩
  | false :: m, b :: l => ⟨LeB_refl b, hideH_le m l⟩
  | [], l => LeH_refl l
  | b :: _, [] => by cases b <;> trivial
theorem awp_drawhA {E : Env} {T : List A} {H : Heap} {Q : Exit → List A → Heap → Prop} {m id : Nat} {ops : Array Oper} (ms : List Bool) (hrg : rgOk ops.toList (ops.toList.map fun o => wrOp o.op) (ops.toList.map fun o => !wrOp o.op) = true)
    (hvh : visH (hideH ms H) (hideH ms H) = true)
    (h : COps E false (hideH ms H) (dsts ops.toList) ops.toList (ops.toList.map fun o => wrOp o.op) (ops.toList.map fun o => !wrOp o.op) T H (Q .normal)) : AWP E (.region id ops true) T H Q m :=
  awp_drawh _ _ _ hrg (hideH_le ms H) h

theorem dcallP {E : Env} {na b : Bool} {hd : Heap} {T : List A} {H : Heap} {o : Oper} {K : A → Heap → Prop} {f : FuncId} {al : List A} {fo : Operand} {as : Array Operand}
    (ho : opIs o fo as) (hfo : ev E T fo = .c (.clo (.func f) [])) (hargs : as.toList.map (ev E T) = al)
    (h : ∃ rl, AFn E f al [] rl [] ∧ (∀ g, renA g rl = rl) ∧ (∀ g, renAs g al = al) ∧ okAs 0 al = true ∧ (b = true → na = false ∧ visA hd rl = true) ∧ K rl H) : DStep E na hd false b T H o K := by
  obtain ⟨rl, hf, hr, ha, hoA, hv, hk⟩ := h
  exact dcallQ hf ho hfo hargs hr ha hoA hv hk

section
variable {E : Env} {na : Bool} {hd : Heap} {ds : List (Option Nat)} {o : Oper} {l : List Oper} {w b : Bool} {wr am : List Bool} {T : List A} {H : Heap} {Q : List A → Heap → Prop}
theorem CGd_d {p : Prop} {inst : Decidable p} (h1 : p → @decide p inst = true → CSt (isCall o.op) E na hd ds o w b l wr am T H Q) (h2 : ¬ p → @decide p inst = false → COps E na hd ds l wr am (putT T o.dst .und) H Q) : CGd (some (decide p)) E na hd ds o w b l wr am T H Q := CGd_b (fun h => h1 (of_decide_eq_true h) h) (fun h => h2 (of_decide_eq_false h) h)
theorem CGd_nd {p : Prop} {inst : Decidable p} (h1 : ¬ p → @decide p inst = false → CSt (isCall o.op) E na hd ds o w b l wr am T H Q) (h2 : p → @decide p inst = true → COps E na hd ds l wr am (putT T o.dst .und) H Q) : CGd (some (!decide p)) E na hd ds o w b l wr am T H Q := CGd_nb (fun h => h1 (of_decide_eq_false h) h) (fun h => h2 (of_decide_eq_true h) h)
theorem CRes_id {fa : Bool} {r : Option (A × Heap)} {d : Option Nat} (h : CRes w b fa r E na hd ds d l wr am T H Q) : CRes w b fa r E na hd ds d l wr am T H Q := h
end
theorem fin_q {E : Env} {rs : List ResultVar} {l : List A} {T : List A} {H H1 H2 H' : Heap} {m : Nat} {r r0 : A} (h5 : r0 = r) (h6 : H2 = H') (h1 : resA E T H rs = some l := by (simp (disch := omega) only [go_sem]; first | done | rfl)) (h2 : frA m H (oneRes l) = some (r0, H1) := by (simp only [go_sem]; first | done | rfl)) (h3 : okR m r0 = true := by (simp only [go_sem]; first | done | fail))
    (hm : m ≤ H.length := by (first | decide | (simp only [go_sem]; first | done | omega | fail))) (h4 : cutH m m H1 = H2 := by (simp only [go_sem]; first | done | rfl)) : Fin E rs r H' m .ret T H := fin_ret h1 h2 h3 hm (h4.trans h6) h5
theorem fin_qn {E : Env} {rs : List ResultVar} {l : List A} {T : List A} {H H1 H2 H' : Heap} {m : Nat} {r r0 : A} (h5 : r0 = r) (h6 : H2 = H') (h1 : resA E T H rs = some l := by (simp (disch := omega) only [go_sem]; first | done | rfl)) (h2 : frA m H (oneRes l) = some (r0, H1) := by (simp only [go_sem]; first | done | rfl)) (h3 : okR m r0 = true := by (simp only [go_sem]; first | done | fail))
    (hm : m ≤ H.length := by (first | decide | (simp only [go_sem]; first | done | omega | fail))) (h4 : cutH m m H1 = H2 := by (simp only [go_sem]; first | done | rfl)) : Fin E rs r H' m .normal T H := fin_norm h1 h2 h3 hm (h4.trans h6) h5
attribute [go_sem] wrOp hideH visH
end Go.Eng
namespace Go.Eng
open Go.RowKit
set_option linter.unusedVariables false
set_option linter.unusedSimpArgs false

mutual
def invC (sel : List Nat) : C → Option C
  | .own id off len n => match find sel id with | some k => some (.own k off len n) | none => none
  | .ptr id j off n => match find sel id with | some k => some (.ptr k j off n) | none => none
  | .clo fn cs => match invCs sel cs with | some r => some (.clo fn r) | none => none
  | .d x => some (.d x)
  | .nils => some .nils
  | .pf cs o => some (.pf cs o)
  | .pa rs => some (.pa rs)
  | .any => some .any
def invCs (sel : List Nat) : List C → Option (List C)
  | [] => some []
  | c :: l => match invC sel c, invCs sel l with | some a, some r => some (a :: r) | _, _ => none
end
def invA (sel : List Nat) : A → Option A
  | .c c => match invC sel c with | some a => some (.c a) | none => none
  | .agg cs => match invCs sel cs with | some a => some (.agg a) | none => none
  | .und => some .und
  | .any => some .any
  | .tup _ => none
def invAs (sel : List Nat) : List A → Option (List A)
  | [] => some []
  | c :: l => match invA sel c, invAs sel l with | some a, some r => some (a :: r) | _, _ => none
def invB (sel : List Nat) : Option Blk → Option (Option Blk)
  | some (.box cs ty) => match invCs sel cs with | some r => some (some (.box r ty)) | none => none
  | b => some b
def invH (sel : List Nat) (H : Heap) : List Nat → Option Heap
  | [] => some []
  | s :: l => match invB sel (hB H s), invH sel H l with | some b, some r => some (b :: r) | _, _ => none

theorem find_gl {sel : List Nat} {id k L : Nat} (h : find sel id = some k) : gl sel L k = id ∧ k < sel.length := by
  have := find_some h
  exact ⟨by simp only [gl, this], (List.getElem?_eq_some_iff.1 this).1⟩

mutual
theorem invC_ok {sel : List Nat} (L : Nat) : ∀ {c c' : C}, invC sel c = some c' → renC (gl sel L) c' = c ∧ okC sel.length c' = true
  | .own id off len n, c', h => by
    simp only [invC] at h
    split at h
    · rename_i k hk
      cases h
      obtain ⟨h1, h2⟩ := find_gl (L := L) hk
      exact ⟨by simp only [renC, h1], by simp [okC, h2]⟩
    · cases h
  | .ptr id j off n, c', h => by
    simp only [invC] at h
    split at h
    · rename_i k hk
      cases h
      obtain ⟨h1, h2⟩ := find_gl (L := L) hk
      exact ⟨by simp only [renC, h1], by simp [okC, h2]⟩
    · cases h
  | .clo fn cs, c', h => by
    simp only [invC] at h
    split at h
    · rename_i r hr
      cases h
      obtain ⟨h1, h2⟩ := invCs_ok L hr
      exact ⟨by simp only [renC, h1], by simpa only [okC] using h2⟩
    · cases h
  | .d x, c', h => by simp only [invC] at h; cases h; exact ⟨by simp only [renC], by simp only [okC]⟩
  | .nils, c', h => by simp only [invC] at h; cases h; exact ⟨by simp only [renC], by simp only [okC]⟩
  | .pf cs o, c', h => by simp only [invC] at h; cases h; exact ⟨by simp only [renC], by simp only [okC]⟩
  | .pa rs, c', h => by simp only [invC] at h; cases h; exact ⟨by simp only [renC], by simp only [okC]⟩
  | .any, c', h => by simp only [invC] at h; cases h; exact ⟨by simp only [renC], by simp only [okC]⟩
theorem invCs_ok {sel : List Nat} (L : Nat) : ∀ {c c' : List C}, invCs sel c = some c' → renCs (gl sel L) c' = c ∧ okCs sel.length c' = true
  | [], c', h => by simp only [invCs] at h; cases h; exact ⟨by simp only [renCs], by simp only [okCs]⟩
  | c :: l, c', h => by
    simp only [invCs] at h
    split at h
    · rename_i a r h1 h2
      cases h
      obtain ⟨h3, h4⟩ := invC_ok L h1
      obtain ⟨h5, h6⟩ := invCs_ok L h2
      exact ⟨by simp only [renCs, h3, h5], by simp only [okCs, h4, h6, Bool.and_self]⟩
    · cases h
end
theorem invA_ok {sel : List Nat} (L : Nat) {c c' : A} (h : invA sel c = some c') : renA (gl sel L) c' = c ∧ okA sel.length c' = true := by
  cases c with
  | c c =>
    simp only [invA] at h
    split at h
    · rename_i a ha
      cases h
      obtain ⟨h1, h2⟩ := invC_ok L ha
      exact ⟨by simp only [renA, h1], by simpa only [okA] using h2⟩
    · cases h
  | agg c =>
    simp only [invA] at h
    split at h
    · rename_i a ha
      cases h
      obtain ⟨h1, h2⟩ := invCs_ok L ha
      exact ⟨by simp only [renA, h1], by simpa only [okA] using h2⟩
    · cases h
  | und => simp only [invA] at h; cases h; exact ⟨by simp only [renA], by simp only [okA]⟩
  | any => simp only [invA] at h; cases h; exact ⟨by simp only [renA], by simp only [okA]⟩
  | tup l => simp only [invA] at h; cases h
theorem invAs_ok {sel : List Nat} (L : Nat) : ∀ {c c' : List A}, invAs sel c = some c' → renAs (gl sel L) c' = c ∧ okAs sel.length c' = true
  | [], c', h => by simp only [invAs] at h; cases h; exact ⟨by simp only [renAs], by simp only [okAs]⟩
  | c :: l, c', h => by
    simp only [invAs] at h
    split at h
    · rename_i a r h1 h2
      cases h
      obtain ⟨h3, h4⟩ := invA_ok L h1
      obtain ⟨h5, h6⟩ := invAs_ok L h2
      exact ⟨by simp only [renAs, h3, h5], by simp only [okAs, h4, h6, Bool.and_self]⟩
    · cases h
theorem invB_ok {sel : List Nat} (L : Nat) {c c' : Option Blk} (h : invB sel c = some c') : renB (gl sel L) c' = c ∧ okB sel.length c' = true := by
  unfold invB at h
  split at h
  · split at h
    · rename_i cs r hr
      cases h
      obtain ⟨h1, h2⟩ := invCs_ok L hr
      exact ⟨by simp only [renB, h1], by simpa only [okB] using h2⟩
    · cases h
  · rename_i hn
    cases h
    cases c with
    | none => exact ⟨rfl, rfl⟩
    | some b =>
      cases b with
      | box cs => exact absurd rfl (hn cs _)
      | rows s rs => exact ⟨rfl, rfl⟩
      | mp es => exact ⟨rfl, rfl⟩
      | raw r => exact ⟨rfl, rfl⟩
theorem invH_ok {sel : List Nat} {H : Heap} (L : Nat) : ∀ {l : List Nat} {r : Heap}, invH sel H l = some r → r.map (renB (gl sel L)) = l.map (hB H) ∧ okH sel.length r = true
  | [], r, h => by simp only [invH] at h; cases h; exact ⟨rfl, rfl⟩
  | s :: l, r, h => by
    simp only [invH] at h
    split at h
    · rename_i a r h1 h2
      cases h
      obtain ⟨h3, h4⟩ := invB_ok L h1
      obtain ⟨h5, h6⟩ := invH_ok L h2
      exact ⟨by simp only [List.map_cons, h3, h5], by simp only [okH, h4, h6, Bool.and_self]⟩
    · cases h

theorem callT {E : Env} {T : List A} {H : Heap} {o : Oper} {K : A → Heap → Prop} (sel : List Nat) {f : FuncId} {args al : List A} {Hl : Heap} {fo : Operand} {as : Array Operand} {caps : List C}
    (ho : opIs o fo as) (hfo : ev E T fo = .c (.clo (.func f) caps)) (hargs : as.toList.map (ev E T) ++ caps.map .c = args) (hl : invAs sel args = some al) (hh : invH sel H sel = some Hl) (hc : chk sel H.length = true)
    (h : ∃ rl Hl', AFn E f al Hl rl Hl' ∧ K (renA (gl sel H.length) rl) (mrg (gl sel H.length) sel Hl' H)) : CallK E T H o K := by
  obtain ⟨rl, Hl', hf, hk⟩ := h
  obtain ⟨h1, h2⟩ := invAs_ok H.length hl
  obtain ⟨h3, h4⟩ := invH_ok H.length hh
  have hlen : Hl.length = sel.length := by simpa using congrArg List.length h3
  exact callS sel hf ho hfo (by rw [h1, hargs]) hc h3 (by rw [hlen]; exact h2) (by rw [hlen]; exact h4) hk

attribute [go_sem] invC invCs invA invAs invB invH find
end Go.Eng
namespace Go.Eng
open Go.RowKit
set_option linter.unusedVariables false
set_option linter.unusedSimpArgs false

theorem Rel.retell {B : Base} {x : Ctx} {O : Nat → Nat → Prop} {H : Heap} (hR : Rel B x O H) {i : Nat} {cs cs' : List C} {ty : Option TypeId} (hb : H[i]? = some (some (.box cs ty)))
    (h : ∀ g vs t, x.μ i = some (g, 0) → x.w.heap[g]? = some (.cells vs t (0, 0)) → CsR x cs vs → CsR x cs' vs) : Rel B x O (H.set i (some (.box cs' ty))) := by
  have hlt : i < H.length := (List.getElem?_eq_some_iff.1 hb).1
  refine ⟨by rw [List.length_set]; exact hR.hL, fun id => ?_, hR.le, hR.os, hR.tape, hR.output, hR.keep, hR.own, hR.fr, hR.disj, hR.nof, fun id b hb2 => ?_⟩
  · rw [hR.hN]
    unfold nOf
    rw [List.getElem?_set]
    by_cases e : i = id
    · subst e; rw [if_pos rfl, if_pos hlt, hb]
    · rw [if_neg e]
  · rw [List.getElem?_set] at hb2
    by_cases e : i = id
    · subst e
      rw [if_pos rfl, if_pos hlt] at hb2
      cases hb2
      obtain ⟨g, vs, t, h1, h2, h3, h4⟩ := hR.blk i _ hb
      exact ⟨g, vs, t, h1, h2, h3, h g vs _ h1 h3 h4⟩
    · rw [if_neg e] at hb2
      exact hR.blk id b hb2

def pC : List C → Nat → C → List C
  | [], _, _ => []
  | _ :: l, 0, x => x :: l
  | a :: l, n + 1, x => a :: pC l n x
theorem pC_eq : ∀ (l : List C) (i : Nat) (v : C), pC l i v = l.set i v
  | [], _, _ => by simp [pC]
  | a :: l, 0, _ => by simp [pC]
  | a :: l, n + 1, v => by simp [pC, pC_eq l n v]
def gC : List C → Nat → Option C
  | [], _ => none
  | a :: _, 0 => some a
  | _ :: l, n + 1 => gC l n
theorem gC_eq : ∀ (l : List C) (i : Nat), gC l i = l[i]?
  | [], _ => by simp [gC]
  | a :: l, 0 => by simp [gC]
  | a :: l, n + 1 => by simp [gC, gC_eq l n]

theorem CsR.put {x : Ctx} {cs : List C} {vs : Array Value} (h : CsR x cs vs) {j : Nat} {c c' : C} (hj : cs[j]? = some c) (hv : ∀ u, vs[j]? = some u → VR x c u → VR x c' u) : CsR x (cs.set j c') vs := by
  refine ⟨by rw [List.length_set]; exact h.1, fun i d hd => ?_⟩
  rw [List.getElem?_set] at hd
  by_cases e : j = i
  · subst e
    rw [if_pos rfl] at hd
    split at hd
    · cases hd
      obtain ⟨u, hu, hr⟩ := h.2 j c hj
      exact ⟨u, hu, hv u hu hr⟩
    · cases hd
  · rw [if_neg e] at hd
    exact h.2 i d hd

def fzC (H : Heap) (j : Nat) : Option Blk → Option (D × Heap × List C)
  | some (.box cs _) => match gC cs j with
    | some c => match toD H c with | some (d, H1) => some (d, H1, pC cs j (.d d)) | none => none
    | none => none
  | _ => none

def tyB : Option Blk → Option TypeId
  | some (.box _ ty) => ty
  | _ => none
theorem wk_fzB {m i j : Nat} {T : List A} {H H1 : Heap} {d : D} {cs' : List C} (h : fzC H j (hG H i) = some (d, H1, cs')) : Wk m T H T (hP H1 i (some (.box cs' (tyB (hG H i))))) := by
  intro B a w hm hs
  obtain ⟨hd, x, O, rfl, hR, hT⟩ := hs
  unfold fzC at h
  split at h
  · rename_i cs ty hc
    have hty : tyB (hG H i) = ty := by rw [hc]; rfl
    rw [hty]
    split at h
    · rename_i c hg
      split at h
      · rename_i d' H1' h1
        cases h
        have hb := hG_some hc
        rw [gC_eq] at hg
        obtain ⟨g, vs, t, q1, q2, q3, q4⟩ := hR.blk i _ hb
        obtain ⟨u, hu, hv⟩ := q4.2 j c hg
        obtain ⟨y, O', e1, l1, R1, D1⟩ := toD_ok hR hv h1
        have hb1 : H1[i]? = some (some (.box cs ty)) := by
          unfold toD at h1
          split at h1
          · cases h1; exact hb
          · cases h1; exact hb
          · rename_i k off len n
            split at h1
            · rename_i s rs tyB hgid
              split at h1
              · cases h1
                rw [hP_eq, List.getElem?_set]
                have : k ≠ i := fun e => by subst e; rw [hc] at hgid; cases hgid
                rw [if_neg this]
                exact hb
              · cases h1
            · cases h1
          · cases h1
        have hN1 : y.N i = some (0, 0) := by rw [R1.hN]; simp [nOf, hb1]
        have hlt : i < x.L := by rw [hR.hL]; exact (List.getElem?_eq_some_iff.1 hb).1
        obtain ⟨n, _, hle, heq⟩ := l1.N i hlt 0 0 hN1
        have hμ : y.μ i = x.μ i := (heq (by omega)).1
        have R2 := R1.retell (cs' := pC cs j (.d d)) hb1 (fun g2 vs2 t2 r1 r2 r3 => by
          rw [pC_eq]
          rw [hμ, q1] at r1
          cases r1
          rw [e1, q3] at r2
          cases r2
          exact r3.put hg (fun u' hu' _ => by rw [hu] at hu'; cases hu'; exact .d _ _ D1))
        rw [hP_eq]
        exact ⟨hd, y, O', e1, R2, hT.1, fun k b hb => let ⟨u, h1, h2⟩ := hT.2 k b hb; ⟨u, h1, h2.mono l1⟩⟩
      · cases h
    · cases h
  · cases h

theorem wk_virtB {m i j s : Nat} {T : List A} {H : Heap} {cs : List C} {ty : Option TypeId} (rty : Option TypeId) (hs : 0 < s) (hb : hG H i = some (.box cs ty)) (hj : gC cs j = some .nils) :
    Wk m T H T (hP H i (some (.box (pC cs j (.own H.length 0 0 0)) ty)) ++ [some (.rows s [] rty)]) := by
  intro B a w hm hsr
  obtain ⟨hd, x, O, rfl, hR, hT⟩ := hsr
  have hb' := hG_some hb
  have hlt : i < H.length := (List.getElem?_eq_some_iff.1 hb').1
  obtain ⟨z', O', e1, l1, f1, m1, L1, R1⟩ := hR.new (.rows s [] rty) x.w none (fun _ => False) rfl rfl rfl (Nat.le_refl _) (fun _ _ => rfl) (fun k hk => hk.elim)
    (fun y hw hle hF hμ => ⟨hs, by simp, .inl ⟨hμ, rfl⟩⟩)
  rw [gC_eq] at hj
  have hb1 : (H ++ [some (Blk.rows s [] rty)])[i]? = some (some (.box cs ty)) := by rw [List.getElem?_append_left hlt]; exact hb'
  have R2 := R1.retell (cs' := pC cs j (.own H.length 0 0 0)) hb1 (fun g2 vs2 t2 r1 r2 r3 => by
    rw [pC_eq]
    refine r3.put hj (fun u hu hv => ?_)
    cases hv with | nils =>
    refine .own _ _ _ _ _ ⟨rfl, by rw [L1]; omega, fun s' m' hN => ?_⟩
    have : z'.N H.length = some (s, 0) := by rw [R1.hN]; exact nOf_some (b := .rows s [] rty) (by simp)
    rw [this] at hN
    cases hN
    exact ⟨Nat.le_refl _, fun _ => by rw [m1]; simp⟩)
  have e : (H ++ [some (Blk.rows s [] rty)]).set i (some (.box (pC cs j (.own H.length 0 0 0)) ty)) = hP H i (some (.box (pC cs j (.own H.length 0 0 0)) ty)) ++ [some (.rows s [] rty)] := by
    rw [hP_eq, List.set_append_left _ _ hlt]
  rw [e] at R2
  exact ⟨hd, z', O', e1, R2, hT.1, fun k b hb => let ⟨u, h1, h2⟩ := hT.2 k b hb; ⟨u, h1, h2.mono l1⟩⟩

theorem callK_wk {E : Env} {T : List A} {H H1 : Heap} {o : Oper} {K : A → Heap → Prop} (hw : ∀ m, Wk m T H T H1) (h : CallK E T H1 o K) : CallK E T H o K := by
  obtain ⟨v, H', h1, h2⟩ := h
  refine ⟨v, H', ?_, h2⟩
  intro B a w K' Q hB hs hk
  exact h1 B a w K' Q hB (hw _ B a w rfl hs) hk
theorem AWP_c {E : Env} {T : List A} {H : Heap} {Q : Exit → List A → Heap → Prop} {m : Nat} {c : Operand} {x y : Code} (h : AWP E (.cond c x y) T H Q m) : AWP E (.cond c x y) T H Q m := h
theorem CallK_id {E : Env} {T : List A} {H : Heap} {o : Oper} {K : A → Heap → Prop} (h : CallK E T H o K) : CallK E T H o K := h
theorem DStep_id {E : Env} {na w b : Bool} {hd : Heap} {T : List A} {H : Heap} {o : Oper} {K : A → Heap → Prop} (h : DStep E na hd w b T H o K) : DStep E na hd w b T H o K := h
attribute [go_sem] pC gC fzC tyB okTy
end Go.Eng
