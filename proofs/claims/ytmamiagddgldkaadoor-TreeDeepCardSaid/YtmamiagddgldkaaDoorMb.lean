/- Each function of the program, walked over plain data: what it comes to, at all arguments. -/
import Derived.Test.YtmamiagddgldkaaDoorMa
import Derived.Laws.RangeAny
import Derived.Deep.LoopGhost
namespace Go.Eng
open Go
set_option linter.unusedSimpArgs false
set_option linter.unusedVariables false
def letF (c : Int) : Bool := decide (97 ≤ c) && decide (c ≤ 122)
def partF (c : Int) : Bool := letF c || (decide (48 ≤ c) && decide (c ≤ 57)) || decide (c = 45)
def plainF (c : Int) : Bool := (decide (32 ≤ c) && decide (c ≤ 126)) || decide (c = 10)
def ptU (c : UInt8) : Bool := partF (c.toNat : Int)
def plU (c : UInt8) : Bool := plainF (c.toNat : Int)
def pfx (s p : Str) : Bool := p.isPrefixOf s
def isName (l : Str) : Bool := decide (l ≠ []) && decide (l.length ≤ 24) && letF (byteAt l 0) && l.all ptU
def sg (c : UInt8) : Str := if c = 60 then [38, 108, 116, 59] else if c = 62 then [38, 103, 116, 59] else if c = 38 then [38, 97, 109, 112, 59] else if c = 34 then [38, 113, 117, 111, 116, 59] else []
def findE (l : Str) : Option (UInt8 × Nat) :=
  if pfx l [38, 108, 116, 59] = true then some (60, 4) else if pfx l [38, 103, 116, 59] = true then some (62, 4)
  else if pfx l [38, 97, 109, 112, 59] = true then some (38, 5) else if pfx l [38, 113, 117, 111, 116, 59] = true then some (34, 6) else none
def mean : Str → Nat → Option Str
  | [], _ => some []
  | _ :: r, n + 1 => mean r n
  | c :: r, 0 => if plU c = true ∧ c ≠ 60 then (if c = 38 then (match findE (c :: r) with
    | none => none
    | some x => (mean r (x.2 - 1)).map (x.1 :: ·)) else (mean r 0).map (c :: ·)) else none
def attrS (l : Str) : Option (At × Str) :=
  if isName (l.takeWhile ptU) = true ∧ pfx (l.dropWhile ptU) [61, 34] = true then
    (if ((l.dropWhile ptU).drop 2).dropWhile (· != 34) = [] then none else (mean (((l.dropWhile ptU).drop 2).takeWhile (· != 34)) 0).map fun v => (⟨l.takeWhile ptU, v⟩, (((l.dropWhile ptU).drop 2).dropWhile (· != 34)).drop 1))
  else none
def attrsS : Nat → Str → Option (List At × Str)
  | 0, l => some ([], l)
  | d + 1, l => if pfx l [32] = true then (match attrS (l.drop 1) with
    | none => none
    | some x => (attrsS d x.2).map fun y => (x.1 :: y.1, y.2)) else some ([], l)
def dup : List At → Bool
  | [] => false
  | a :: r => r.any (fun b => b.name == a.name) || dup r
def opnS (l : Str) : Option (Str × List At × Bool × Str) :=
  if isName (l.takeWhile ptU) = true then
    (match attrsS l.length (l.dropWhile ptU) with
    | none => none
    | some x => if x.1.length ≤ 64 ∧ dup x.1 = false then (if pfx x.2 [47, 62] = true then some (l.takeWhile ptU, x.1, true, x.2.drop 2) else if pfx x.2 [62] = true then some (l.takeWhile ptU, x.1, false, x.2.drop 1) else none) else none)
  else none
def firstS (l : Str) : Option (List Mk × Str) :=
  if pfx l [60, 47] = true then (if isName ((l.drop 2).takeWhile ptU) = true ∧ pfx ((l.drop 2).dropWhile ptU) [62] = true then some ([⟨2, 0, (l.drop 2).takeWhile ptU, [], []⟩], ((l.drop 2).dropWhile ptU).drop 1) else none)
  else if pfx l [60] = true then (match opnS (l.drop 1) with
    | none => none
    | some (n, ats, both, t) => some (⟨1, 0, n, ats, []⟩ :: (if both = true then [⟨2, 0, n, [], []⟩] else []), t))
  else (match mean (l.takeWhile (· != 60)) 0 with
    | none => none
    | some m => some ([⟨3, 0, [], [], m⟩], l.dropWhile (· != 60)))
def setAt (a : Int) (m : Mk) : Mk := { m with pos := a }
def readS : Nat → Str → Int → Int ⊕ List Mk
  | _, [], _ => .inr []
  | 0, _ :: _, a => .inl a
  | d + 1, c :: l, a => match firstS (c :: l) with
    | none => .inl a
    | some x => match readS d x.2 (a + ((l.length : Int) + 1 - (x.2.length : Int))) with
      | .inl e => .inl e
      | .inr r => .inr (x.1.map (setAt a) ++ r)
def esc1 (c : UInt8) : Str := if sg c = [] then [c] else sg c
def escP : Str → Option Str
  | [] => some []
  | c :: r => if plU c = true then (escP r).map (esc1 c ++ ·) else none
def attsP : List At → Option Str
  | [] => some []
  | x :: r => match escP x.val with
    | none => none
    | some e => (attsP r).map ([32] ++ x.name ++ [61, 34] ++ e ++ [34] ++ ·)
def fineAtts (ats : List At) : Bool := decide (ats.length ≤ 64) && !dup ats && ats.all (fun x => isName x.name)
def writeP (m : Mk) : Str × Int :=
  if m.kind < 1 ∨ 3 < m.kind then ([], 1)
  else if m.kind = 3 then (if m.name = [] ∧ m.ats = [] ∧ m.text ≠ [] then (match escP m.text with | none => ([], 4) | some e => (e, 0)) else ([], 4))
  else if m.kind = 2 then (if isName m.name = true ∧ m.ats = [] ∧ m.text = [] then ([60, 47] ++ m.name ++ [62], 0) else ([], 4))
  else if isName m.name = true ∧ m.text = [] ∧ fineAtts m.ats = true then (match attsP m.ats with | none => ([], 4) | some s => ([60] ++ m.name ++ s ++ [62], 0)) else ([], 4)
theorem pfx_nil (p : Str) : pfx [] p = decide (p = []) := by cases p <;> rfl
theorem pfx_cons (a b : UInt8) (s p : Str) : pfx (a :: s) (b :: p) = (b == a && pfx s p) := rfl
theorem pfx_e (s : Str) : pfx s [] = true := by cases s <;> rfl
theorem pfx_iff {s p : Str} : pfx s p = true ↔ p <+: s := List.isPrefixOf_iff_prefix
theorem pfx_len {s p : Str} (h : pfx s p = true) : p.length ≤ s.length := (pfx_iff.1 h).length_le
theorem pfx_take {s p : Str} : pfx s p = true ↔ s.take p.length = p := by
  rw [pfx_iff, List.prefix_iff_eq_take]; exact ⟨fun h => h.symm, fun h => h.symm⟩
theorem mean_drop : ∀ (l : Str) (n : Nat), mean l n = mean (l.drop n) 0
  | [], n => by cases n <;> simp [mean]
  | c :: r, 0 => rfl
  | c :: r, n + 1 => by rw [mean]; exact mean_drop r n
theorem tw_app {q : UInt8 → Bool} : ∀ (n r : Str), n.all q = true → (r = [] ∨ q (r.headD 0) = false) → (n ++ r).takeWhile q = n ∧ (n ++ r).dropWhile q = r
  | [], r, _, h => by
    cases r with
    | nil => exact ⟨rfl, rfl⟩
    | cons c r =>
      have hc : q c = false := by simpa using h
      simp [List.takeWhile_cons, List.dropWhile_cons, hc]
  | a :: n, r, hn, h => by
    simp only [List.all_cons, Bool.and_eq_true] at hn
    have := tw_app n r hn.2 h
    simp only [List.cons_append, List.takeWhile_cons, List.dropWhile_cons, if_pos hn.1, this.1, this.2, and_self]
theorem find_sg (c : UInt8) (r : Str) (h : sg c ≠ []) : findE (sg c ++ r) = some (c, (sg c).length) := by
  unfold sg at h ⊢
  unfold findE
  split
  · rename_i h; subst h; simp [pfx_cons, pfx_e]
  split
  · rename_i h; subst h; simp [pfx_cons, pfx_e]
  split
  · rename_i h; subst h; simp [pfx_cons, pfx_e]
  split
  · rename_i h; subst h; simp [pfx_cons, pfx_e]
  · rename_i h1 h2 h3 h4
    rw [if_neg h1, if_neg h2, if_neg h3, if_neg h4] at h
    exact absurd rfl h
theorem sg_head (c : UInt8) (h : sg c ≠ []) : ∃ t, sg c = 38 :: t ∧ ∀ x ∈ sg c, x ≠ 34 ∧ x ≠ 60 := by
  unfold sg at h ⊢
  split
  · exact ⟨_, rfl, by simp⟩
  split
  · exact ⟨_, rfl, by simp⟩
  split
  · exact ⟨_, rfl, by simp⟩
  split
  · exact ⟨_, rfl, by simp⟩
  · rename_i h1 h2 h3 h4
    rw [if_neg h1, if_neg h2, if_neg h3, if_neg h4] at h
    exact absurd rfl h
theorem sg_nil {c : UInt8} (h : sg c = []) : c ≠ 60 ∧ c ≠ 62 ∧ c ≠ 38 ∧ c ≠ 34 := by
  unfold sg at h
  refine ⟨?_, ?_, ?_, ?_⟩ <;> rintro rfl <;> simp at h
theorem mean_esc1 (c : UInt8) (r : Str) (hp : plU c = true) : mean (esc1 c ++ r) 0 = (mean r 0).map (c :: ·) := by
  unfold esc1
  by_cases h : sg c = []
  · rw [if_pos h]
    have hc := sg_nil h
    simp only [List.singleton_append, mean, if_pos (show plU c = true ∧ c ≠ 60 from ⟨hp, hc.1⟩), if_neg hc.2.2.1]
  · rw [if_neg h]
    obtain ⟨t, ht, _⟩ := sg_head c h
    have hf := find_sg c r h
    rw [ht] at hf ⊢
    simp only [List.cons_append] at hf ⊢
    simp only [mean, if_pos (show plU 38 = true ∧ (38 : UInt8) ≠ 60 from ⟨rfl, by decide⟩), if_true, hf]
    rw [mean_drop]
    simp
theorem escP_back : ∀ (v e : Str), escP v = some e → mean e 0 = some v ∧ ∀ x ∈ e, x ≠ 34 ∧ x ≠ 60
  | [], e, h => by obtain rfl := Option.some.inj h; exact ⟨rfl, by simp⟩
  | c :: r, e, h => by
    simp only [escP] at h
    split at h
    · rename_i hp
      obtain ⟨m, h1, rfl⟩ := Option.map_eq_some_iff.1 h
      have ih := escP_back r m h1
      refine ⟨by rw [mean_esc1 c m hp, ih.1]; rfl, ?_⟩
      intro x hx
      rcases List.mem_append.1 hx with hx | hx
      · unfold esc1 at hx
        split at hx
        · rename_i hs
          have hc := sg_nil hs
          rw [List.mem_singleton.1 hx]
          exact ⟨hc.2.2.2, hc.1⟩
        · rename_i hs
          obtain ⟨t, _, ha⟩ := sg_head c hs
          exact ha x hx
      · exact ih.2 x hx
    · simp at h
theorem isName_all {n : Str} (h : isName n = true) : n.all ptU = true ∧ n ≠ [] := by
  simp only [isName, Bool.and_eq_true, decide_eq_true_iff] at h
  exact ⟨h.2, h.1.1.1⟩
theorem attr_back {n v e : Str} (hn : isName n = true) (he : escP v = some e) (t : Str) : attrS (n ++ ([61, 34] ++ e ++ [34] ++ t)) = some (⟨n, v⟩, t) := by
  have h1 := tw_app (q := ptU) n ([61, 34] ++ e ++ [34] ++ t) (isName_all hn).1 (.inr rfl)
  have hb := escP_back v e he
  have h2 := tw_app (q := (· != 34)) e (34 :: t) (by rw [List.all_eq_true]; intro x hx; exact bne_iff_ne.2 (hb.2 x hx).1) (.inr rfl)
  unfold attrS
  rw [h1.1, h1.2]
  have e1 : pfx ([61, 34] ++ e ++ [34] ++ t) [61, 34] = true := by simp [pfx_cons, pfx_e]
  have e2 : ([61, 34] ++ e ++ [34] ++ t).drop 2 = e ++ 34 :: t := by simp
  rw [if_pos ⟨hn, e1⟩, e2, h2.1, h2.2, hb.1, if_neg (by simp)]; rfl
theorem attrs_back : ∀ (ats : List At) (s : Str) (d : Nat) (t : Str), attsP ats = some s → ats.all (fun x => isName x.name) = true → ats.length ≤ d → (pfx t [32] = false) → attrsS d (s ++ t) = some (ats, t)
  | [], s, d, t, h, _, _, ht => by
    obtain rfl := Option.some.inj h
    cases d with
    | zero => rfl
    | succ d => simp [attrsS, ht]
  | x :: r, s, d, t, h, hn, hd, ht => by
    simp only [List.length_cons] at hd
    obtain ⟨d, rfl⟩ : ∃ q, d = q + 1 := ⟨d - 1, by omega⟩
    simp only [attsP] at h
    simp only [List.all_cons, Bool.and_eq_true] at hn
    cases he : escP x.val with
    | none => rw [he] at h; simp at h
    | some e =>
      rw [he] at h
      obtain ⟨m, h1, rfl⟩ := Option.map_eq_some_iff.1 h
      have ih := attrs_back r m d t h1 hn.2 (by omega) ht
      have e0 : [32] ++ x.name ++ [61, 34] ++ e ++ [34] ++ m ++ t = 32 :: (x.name ++ ([61, 34] ++ e ++ [34] ++ (m ++ t))) := by simp
      simp only [attrsS]
      rw [e0]
      rw [if_pos (by simp [pfx_cons, pfx_e]), List.drop_succ_cons, List.drop_zero, attr_back hn.1 he]
      simp only
      rw [ih]
      rfl
theorem attsP_head (ats : List At) (s : Str) (h : attsP ats = some s) : s = [] ∨ s.headD 0 = 32 := by
  cases ats with
  | nil => obtain rfl := Option.some.inj h; exact .inl rfl
  | cons x r =>
    simp only [attsP] at h
    cases he : escP x.val with
    | none => rw [he] at h; simp at h
    | some e =>
      rw [he] at h
      obtain ⟨m, h1, rfl⟩ := Option.map_eq_some_iff.1 h
      exact .inr rfl
theorem attsP_len : ∀ (ats : List At) (s : Str), attsP ats = some s → ats.length ≤ s.length
  | [], s, h => by simp
  | x :: r, s, h => by
    simp only [attsP] at h
    cases he : escP x.val with
    | none => rw [he] at h; simp at h
    | some e =>
      rw [he] at h
      obtain ⟨m, h1, rfl⟩ := Option.map_eq_some_iff.1 h
      have := attsP_len r m h1
      simp
      omega
theorem opn_back {n : Str} {ats : List At} {s : Str} (hn : isName n = true) (hf : fineAtts ats = true) (hs : attsP ats = some s) (b : Bool) (t : Str) :
    firstS ([60] ++ n ++ s ++ (if b = true then [47, 62] else [62]) ++ t) = some (⟨1, 0, n, ats, []⟩ :: (if b = true then [⟨2, 0, n, [], []⟩] else []), t) := by
  simp only [fineAtts, Bool.and_eq_true, decide_eq_true_iff, Bool.not_eq_true'] at hf
  have hh := attsP_head _ _ hs
  have hlen := attsP_len _ _ hs
  obtain ⟨w, hw0⟩ : ∃ w, w = (if b = true then [47, 62] else [62]) ++ t := ⟨_, rfl⟩
  have hwn : w = [] ∨ ptU (w.headD 0) = false := by rw [hw0]; cases b <;> exact .inr rfl
  have hw1 : pfx w [32] = false := by rw [hw0]; cases b <;> rfl
  have hw := tw_app (q := ptU) n (s ++ w) (isName_all hn).1 (by
    rcases hh with rfl | hh
    · simpa using hwn
    · right
      cases s with
      | nil => simp at hh
      | cons x r => simp at hh; subst hh; rfl)
  have e0 : [60] ++ n ++ s ++ (if b = true then [47, 62] else [62]) ++ t = 60 :: (n ++ (s ++ w)) := by rw [hw0]; simp
  rw [e0]
  obtain ⟨x, r, hxr⟩ := List.exists_cons_of_ne_nil (isName_all hn).2
  have hx47 : x ≠ 47 := by
    rintro rfl
    have := (isName_all hn).1
    rw [hxr] at this
    simp [ptU, partF, letF] at this
  have p1 : pfx (60 :: (n ++ (s ++ w))) [60, 47] = false := by
    rw [hxr]
    have : ((47 : UInt8) == x) = false := beq_eq_false_iff_ne.2 (fun h => hx47 h.symm)
    simp [pfx_cons, this]
  have p2 : pfx (60 :: (n ++ (s ++ w))) [60] = true := by simp [pfx_cons, pfx_e]
  have ho : opnS (n ++ (s ++ w)) = some (n, ats, b, t) := by
    unfold opnS
    rw [hw.1, hw.2, if_pos hn, attrs_back _ s _ w hs hf.2 (by simp; omega) hw1]
    simp only [hf.1.1, hf.1.2, and_self, if_true]
    rw [hw0]
    cases b <;> simp [pfx_cons, pfx_e]
  unfold firstS
  rw [p1, p2]
  simp only [Bool.false_eq_true, if_false, if_true, List.drop_succ_cons, List.drop_zero, ho]
theorem cls_back {n : Str} (hn : isName n = true) (t : Str) : firstS ([60, 47] ++ n ++ [62] ++ t) = some ([⟨2, 0, n, [], []⟩], t) := by
  have hw := tw_app (q := ptU) n (62 :: t) (isName_all hn).1 (.inr rfl)
  have e0 : [60, 47] ++ n ++ [62] ++ t = 60 :: 47 :: (n ++ 62 :: t) := by simp
  rw [e0]
  unfold firstS
  rw [if_pos (by simp [pfx_cons, pfx_e])]
  simp only [List.drop_succ_cons, List.drop_zero, hw.1, hw.2]
  rw [if_pos ⟨hn, by simp [pfx_cons, pfx_e]⟩]
theorem txt_back {v e : Str} (hv : v ≠ []) (he : escP v = some e) (t : Str) (ht : t = [] ∨ t.headD 0 = 60) : firstS (e ++ t) = some ([⟨3, 0, [], [], v⟩], t) ∧ e ≠ [] := by
  have hb := escP_back _ _ he
  have hne : e ≠ [] := by
    rintro rfl
    exact hv (Option.some.inj hb.1).symm
  obtain ⟨x, r, rfl⟩ := List.exists_cons_of_ne_nil hne
  have hx := hb.2 x (by simp)
  refine ⟨?_, by simp⟩
  have h2 := tw_app (q := (· != 60)) (x :: r) t (by rw [List.all_eq_true]; intro y hy; exact bne_iff_ne.2 (hb.2 y hy).2) (ht.imp id (fun h => bne_eq_false_iff_eq.2 h))
  have n60 : ((60 : UInt8) == x) = false := beq_eq_false_iff_ne.2 (fun h => hx.2 h.symm)
  unfold firstS
  rw [h2.1, h2.2, hb.1]
  rw [if_neg (by simp [pfx_cons, n60]), if_neg (by simp [pfx_cons, n60])]
end Go.Eng
open Go Go.Proofs
namespace Go.Eng
set_option linter.unusedSimpArgs false
set_option linter.unusedVariables false
set_option maxRecDepth 100000
set_option maxHeartbeats 8000000
theorem bdT (s : Str) : Bd true s = [some (.box [.ptr 0 0 0 0, .own 1 0 s.length s.length] (some 59)), some (.rows 1 (s.map rU8) (some 5))] := rfl
theorem bdF (s : Str) : Bd false s = [some (.box [.d (.sc (.pointer none)), .own 1 0 s.length s.length] (some 59)), some (.rows 1 (s.map rU8) (some 5))] := rfl
theorem all1 {α : Type} (f : α → D) (l : List α) : (∀ r, r ∈ l.map (fun b => [f b]) → r.length = 1) = True := by simp
attribute [go_sem] all1
theorem writeString_ok (u : Bool) (s t : Str) (h : s.length + t.length ≤ 100000000000000) : AFn env 31 [P0, aS t] (Bd u s) (.tup [aI t.length, .c (.d (.sc .nilIface))]) (Bd true (s ++ t)) := by
  cases u <;> simp only [bdT, bdF]
  all_goals refine afn_body Tryd.func31 rfl (by decide) ?_
  all_goals simp only [Tryd.ntmps31, Tryd.results31, List.length_cons, List.length_nil, List.cons_append, List.nil_append, Nat.reduceAdd, Nat.reduceSub, List.replicate]
  all_goals repeat' first
            | with_reducible refine awp_seq ?_
            | ((with_reducible refine awp_region ?_); refine zS ?_)
            | ((with_reducible refine Gd_nd ?_ ?_) <;> intro hb hb2 <;> first | contradiction | (exfalso; omega) | (refine zH hb2 ?_; try clear hb2))
            | ((with_reducible refine Gd_nb ?_ ?_) <;> intro hb <;> first | contradiction | refine zH hb ?_)
            | ((with_reducible refine Gd_d ?_ ?_) <;> intro hb hb2 <;> first | contradiction | (exfalso; omega) | (refine zH hb2 ?_; try clear hb2))
            | ((with_reducible refine Gd_b ?_ ?_) <;> intro hb <;> first | contradiction | refine zH hb ?_)
            | ((with_reducible refine Res_id ?_); refine zS ?_)
            | ((with_reducible refine awp_drawnC ?_ ?_); rfl; refine zS ?_)
            | ((with_reducible refine awp_drawnA ?_ ?_); rfl; refine zS ?_)
            | ((with_reducible refine CGd_nd ?_ ?_) <;> intro hb hb2 <;> first | contradiction | (exfalso; omega) | (refine zH hb2 ?_; try clear hb2))
            | ((with_reducible refine CGd_nb ?_ ?_) <;> intro hb <;> first | contradiction | refine zH hb ?_)
            | ((with_reducible refine CGd_d ?_ ?_) <;> intro hb hb2 <;> first | contradiction | (exfalso; omega) | (refine zH hb2 ?_; try clear hb2))
            | ((with_reducible refine CGd_b ?_ ?_) <;> intro hb <;> first | contradiction | refine zH hb ?_)
            | ((with_reducible refine CRes_id ?_); refine zS ?_)
            | ((with_reducible refine DStep_id ?_); refine zdP ?_; refine ⟨_, by first | fail | fail, fun _ => rfl, fun _ => rfl, rfl, (fun h => by first | cases h | fail), ?_⟩; try refine zS ?_)
            | ((with_reducible refine DStep_id ?_); refine zdW ?_; refine ⟨_, by first | fail | fail, fun _ => rfl, fun _ => rfl, rfl, ?_⟩; try refine zS ?_)
            | ((with_reducible refine DStep_id ?_); refine zdT [0, 1] ?_; refine ⟨_, _, by first | exact check_ok true _ _ | exact check_ok false _ _ | fail, ?_⟩; try refine zS ?_)
            | ((with_reducible refine AWP_c ?_); refine zcdT ?_)
            | ((with_reducible refine AWP_c ?_); refine zcdF ?_)
            | ((with_reducible refine AWP_c ?_); refine zcdN ?_ ?_ <;> intro hb hb2 <;> first | contradiction | (exfalso; omega) | ((try refine zH hb2 ?_); try clear hb2))
            | ((with_reducible refine AWP_c ?_); refine zcdD ?_ ?_ <;> intro hb hb2 <;> first | contradiction | (exfalso; omega) | ((try refine zH hb2 ?_); try clear hb2))
            | ((with_reducible refine AWP_c ?_); refine zcdM ?_ ?_ <;> intro hb <;> first | contradiction | (try refine zH hb ?_))
            | ((with_reducible refine AWP_c ?_); refine zcdB ?_ ?_ <;> intro hb <;> first | contradiction | (try refine zH hb ?_))
            | ((with_reducible refine awp_ret ?_); refine fin_r ?_)
            | ((with_reducible refine awp_ret ?_); refine fin_q ?_ ?_)
            | with_reducible refine fin_qn ?_ ?_
            | ((with_reducible refine awp_skip ?_); refine zS ?_)
            | with_reducible refine awp_block ?_
            | ((with_reducible refine awp_exit ?_); refine zS ?_)
            | ((with_reducible refine CallK_id ?_); refine zcF ?_; refine ⟨_, by first | fail | fail, fun _ => rfl, fun _ => rfl, rfl, ?_⟩; try refine zS ?_)
            | ((with_reducible refine CallK_id ?_); refine zcT [0, 1] ?_; refine ⟨_, _, by first | exact check_ok true _ _ | exact check_ok false _ _ | fail, ?_⟩; try refine zS ?_)
            | ((with_reducible refine awp_label ?_); try refine zS ?_)
            | ((with_reducible refine awp_goto ?_); try refine zS ?_)
            | ((with_reducible refine awp_scope0 ?_); try refine zS ?_)
            | exact True.intro
            | fail
  all_goals (first | rfl | (simp [rU8, dU]; done) | trace_state)
theorem writeByte_ok (u : Bool) (s : Str) (c : UInt8) (h : s.length ≤ 100000000000000) : AFn env 47 [P0, aU c.toNat] (Bd u s) (.c (.d (.sc .nilIface))) (Bd true (s ++ [c])) := by
  cases u <;> simp only [bdT, bdF]
  all_goals refine afn_body Tryd.func47 rfl (by decide) ?_
  all_goals simp only [Tryd.ntmps47, Tryd.results47, List.length_cons, List.length_nil, List.cons_append, List.nil_append, Nat.reduceAdd, Nat.reduceSub, List.replicate]
  all_goals repeat' first
            | with_reducible refine awp_seq ?_
            | ((with_reducible refine awp_region ?_); refine zS ?_)
            | ((with_reducible refine Gd_nd ?_ ?_) <;> intro hb hb2 <;> first | contradiction | (exfalso; omega) | (refine zH hb2 ?_; try clear hb2))
            | ((with_reducible refine Gd_nb ?_ ?_) <;> intro hb <;> first | contradiction | refine zH hb ?_)
            | ((with_reducible refine Gd_d ?_ ?_) <;> intro hb hb2 <;> first | contradiction | (exfalso; omega) | (refine zH hb2 ?_; try clear hb2))
            | ((with_reducible refine Gd_b ?_ ?_) <;> intro hb <;> first | contradiction | refine zH hb ?_)
            | ((with_reducible refine Res_id ?_); refine zS ?_)
            | ((with_reducible refine awp_drawnC ?_ ?_); rfl; refine zS ?_)
            | ((with_reducible refine awp_drawnA ?_ ?_); rfl; refine zS ?_)
            | ((with_reducible refine CGd_nd ?_ ?_) <;> intro hb hb2 <;> first | contradiction | (exfalso; omega) | (refine zH hb2 ?_; try clear hb2))
            | ((with_reducible refine CGd_nb ?_ ?_) <;> intro hb <;> first | contradiction | refine zH hb ?_)
            | ((with_reducible refine CGd_d ?_ ?_) <;> intro hb hb2 <;> first | contradiction | (exfalso; omega) | (refine zH hb2 ?_; try clear hb2))
            | ((with_reducible refine CGd_b ?_ ?_) <;> intro hb <;> first | contradiction | refine zH hb ?_)
            | ((with_reducible refine CRes_id ?_); refine zS ?_)
            | ((with_reducible refine DStep_id ?_); refine zdP ?_; refine ⟨_, by first | fail | fail, fun _ => rfl, fun _ => rfl, rfl, (fun h => by first | cases h | fail), ?_⟩; try refine zS ?_)
            | ((with_reducible refine DStep_id ?_); refine zdW ?_; refine ⟨_, by first | fail | fail, fun _ => rfl, fun _ => rfl, rfl, ?_⟩; try refine zS ?_)
            | ((with_reducible refine DStep_id ?_); refine zdT [0, 1] ?_; refine ⟨_, _, by first | exact check_ok true _ _ | exact check_ok false _ _ | fail, ?_⟩; try refine zS ?_)
            | ((with_reducible refine AWP_c ?_); refine zcdT ?_)
            | ((with_reducible refine AWP_c ?_); refine zcdF ?_)
            | ((with_reducible refine AWP_c ?_); refine zcdN ?_ ?_ <;> intro hb hb2 <;> first | contradiction | (exfalso; omega) | ((try refine zH hb2 ?_); try clear hb2))
            | ((with_reducible refine AWP_c ?_); refine zcdD ?_ ?_ <;> intro hb hb2 <;> first | contradiction | (exfalso; omega) | ((try refine zH hb2 ?_); try clear hb2))
            | ((with_reducible refine AWP_c ?_); refine zcdM ?_ ?_ <;> intro hb <;> first | contradiction | (try refine zH hb ?_))
            | ((with_reducible refine AWP_c ?_); refine zcdB ?_ ?_ <;> intro hb <;> first | contradiction | (try refine zH hb ?_))
            | ((with_reducible refine awp_ret ?_); refine fin_r ?_)
            | ((with_reducible refine awp_ret ?_); refine fin_q ?_ ?_)
            | with_reducible refine fin_qn ?_ ?_
            | ((with_reducible refine awp_skip ?_); refine zS ?_)
            | with_reducible refine awp_block ?_
            | ((with_reducible refine awp_exit ?_); refine zS ?_)
            | ((with_reducible refine CallK_id ?_); refine zcF ?_; refine ⟨_, by first | fail | fail, fun _ => rfl, fun _ => rfl, rfl, ?_⟩; try refine zS ?_)
            | ((with_reducible refine CallK_id ?_); refine zcT [0, 1] ?_; refine ⟨_, _, by first | exact check_ok true _ _ | exact check_ok false _ _ | fail, ?_⟩; try refine zS ?_)
            | ((with_reducible refine awp_label ?_); try refine zS ?_)
            | ((with_reducible refine awp_goto ?_); try refine zS ?_)
            | ((with_reducible refine awp_scope0 ?_); try refine zS ?_)
            | exact True.intro
            | fail
  all_goals (first | rfl | (simp [rU8, dU]; done) | trace_state)
theorem len_ok (u : Bool) (s : Str) : AFn env 23 [P0] (Bd u s) (aI s.length) (Bd u s) := by
  cases u <;> simp only [bdT, bdF]
  all_goals refine afn_body Tryd.func23 rfl (by decide) ?_
  all_goals simp only [Tryd.ntmps23, Tryd.results23, List.length_cons, List.length_nil, List.cons_append, List.nil_append, Nat.reduceAdd, Nat.reduceSub, List.replicate]
  all_goals repeat' first
            | with_reducible refine awp_seq ?_
            | ((with_reducible refine awp_region ?_); refine zS ?_)
            | ((with_reducible refine Gd_nd ?_ ?_) <;> intro hb hb2 <;> first | contradiction | (exfalso; omega) | (refine zH hb2 ?_; try clear hb2))
            | ((with_reducible refine Gd_nb ?_ ?_) <;> intro hb <;> first | contradiction | refine zH hb ?_)
            | ((with_reducible refine Gd_d ?_ ?_) <;> intro hb hb2 <;> first | contradiction | (exfalso; omega) | (refine zH hb2 ?_; try clear hb2))
            | ((with_reducible refine Gd_b ?_ ?_) <;> intro hb <;> first | contradiction | refine zH hb ?_)
            | ((with_reducible refine Res_id ?_); refine zS ?_)
            | ((with_reducible refine awp_drawnC ?_ ?_); rfl; refine zS ?_)
            | ((with_reducible refine awp_drawnA ?_ ?_); rfl; refine zS ?_)
            | ((with_reducible refine CGd_nd ?_ ?_) <;> intro hb hb2 <;> first | contradiction | (exfalso; omega) | (refine zH hb2 ?_; try clear hb2))
            | ((with_reducible refine CGd_nb ?_ ?_) <;> intro hb <;> first | contradiction | refine zH hb ?_)
            | ((with_reducible refine CGd_d ?_ ?_) <;> intro hb hb2 <;> first | contradiction | (exfalso; omega) | (refine zH hb2 ?_; try clear hb2))
            | ((with_reducible refine CGd_b ?_ ?_) <;> intro hb <;> first | contradiction | refine zH hb ?_)
            | ((with_reducible refine CRes_id ?_); refine zS ?_)
            | ((with_reducible refine DStep_id ?_); refine zdP ?_; refine ⟨_, by first | fail | fail, fun _ => rfl, fun _ => rfl, rfl, (fun h => by first | cases h | fail), ?_⟩; try refine zS ?_)
            | ((with_reducible refine DStep_id ?_); refine zdW ?_; refine ⟨_, by first | fail | fail, fun _ => rfl, fun _ => rfl, rfl, ?_⟩; try refine zS ?_)
            | ((with_reducible refine DStep_id ?_); refine zdT [0, 1] ?_; refine ⟨_, _, by first | exact check_ok true _ _ | exact check_ok false _ _ | fail, ?_⟩; try refine zS ?_)
            | ((with_reducible refine AWP_c ?_); refine zcdT ?_)
            | ((with_reducible refine AWP_c ?_); refine zcdF ?_)
            | ((with_reducible refine AWP_c ?_); refine zcdN ?_ ?_ <;> intro hb hb2 <;> first | contradiction | (exfalso; omega) | ((try refine zH hb2 ?_); try clear hb2))
            | ((with_reducible refine AWP_c ?_); refine zcdD ?_ ?_ <;> intro hb hb2 <;> first | contradiction | (exfalso; omega) | ((try refine zH hb2 ?_); try clear hb2))
            | ((with_reducible refine AWP_c ?_); refine zcdM ?_ ?_ <;> intro hb <;> first | contradiction | (try refine zH hb ?_))
            | ((with_reducible refine AWP_c ?_); refine zcdB ?_ ?_ <;> intro hb <;> first | contradiction | (try refine zH hb ?_))
            | ((with_reducible refine awp_ret ?_); refine fin_r ?_)
            | ((with_reducible refine awp_ret ?_); refine fin_q ?_ ?_)
            | with_reducible refine fin_qn ?_ ?_
            | ((with_reducible refine awp_skip ?_); refine zS ?_)
            | with_reducible refine awp_block ?_
            | ((with_reducible refine awp_exit ?_); refine zS ?_)
            | ((with_reducible refine CallK_id ?_); refine zcF ?_; refine ⟨_, by first | fail | fail, fun _ => rfl, fun _ => rfl, rfl, ?_⟩; try refine zS ?_)
            | ((with_reducible refine CallK_id ?_); refine zcT [0, 1] ?_; refine ⟨_, _, by first | exact check_ok true _ _ | exact check_ok false _ _ | fail, ?_⟩; try refine zS ?_)
            | ((with_reducible refine awp_label ?_); try refine zS ?_)
            | ((with_reducible refine awp_goto ?_); try refine zS ?_)
            | ((with_reducible refine awp_scope0 ?_); try refine zS ?_)
            | exact True.intro
            | fail
  all_goals (first | rfl | (simp [rU8, dU]; done) | trace_state)
theorem hasPrefix0_ok (s p : Str) : AFn env 73 [aS s, aS p] [] (aB (pfx s p)) [] := by
  refine afn_body Tryd.func73 rfl (by decide) ?_
  simp only [Tryd.ntmps73, Tryd.results73, List.length_cons, List.length_nil, List.cons_append, List.nil_append, Nat.reduceAdd, Nat.reduceSub, List.replicate]
  repeat' first
  | with_reducible refine awp_seq ?_
  | ((with_reducible refine awp_region ?_); refine zS ?_)
  | ((with_reducible refine Gd_nd ?_ ?_) <;> intro hb hb2 <;> first | contradiction | (exfalso; omega) | (refine zH hb2 ?_; try clear hb2))
  | ((with_reducible refine Gd_nb ?_ ?_) <;> intro hb <;> first | contradiction | refine zH hb ?_)
  | ((with_reducible refine Gd_d ?_ ?_) <;> intro hb hb2 <;> first | contradiction | (exfalso; omega) | (refine zH hb2 ?_; try clear hb2))
  | ((with_reducible refine Gd_b ?_ ?_) <;> intro hb <;> first | contradiction | refine zH hb ?_)
  | ((with_reducible refine Res_id ?_); refine zS ?_)
  | ((with_reducible refine awp_drawnC ?_ ?_); rfl; refine zS ?_)
  | ((with_reducible refine awp_drawnA ?_ ?_); rfl; refine zS ?_)
  | ((with_reducible refine CGd_nd ?_ ?_) <;> intro hb hb2 <;> first | contradiction | (exfalso; omega) | (refine zH hb2 ?_; try clear hb2))
  | ((with_reducible refine CGd_nb ?_ ?_) <;> intro hb <;> first | contradiction | refine zH hb ?_)
  | ((with_reducible refine CGd_d ?_ ?_) <;> intro hb hb2 <;> first | contradiction | (exfalso; omega) | (refine zH hb2 ?_; try clear hb2))
  | ((with_reducible refine CGd_b ?_ ?_) <;> intro hb <;> first | contradiction | refine zH hb ?_)
  | ((with_reducible refine CRes_id ?_); refine zS ?_)
  | ((with_reducible refine DStep_id ?_); refine zdP ?_; refine ⟨_, by first | fail | fail, fun _ => rfl, fun _ => rfl, rfl, (fun h => by first | cases h | fail), ?_⟩; try refine zS ?_)
  | ((with_reducible refine DStep_id ?_); refine zdW ?_; refine ⟨_, by first | fail | fail, fun _ => rfl, fun _ => rfl, rfl, ?_⟩; try refine zS ?_)
  | ((with_reducible refine DStep_id ?_); refine zdT [0, 1] ?_; refine ⟨_, _, by first | exact check_ok true _ _ | exact check_ok false _ _ | fail, ?_⟩; try refine zS ?_)
  | ((with_reducible refine AWP_c ?_); refine zcdT ?_)
  | ((with_reducible refine AWP_c ?_); refine zcdF ?_)
  | ((with_reducible refine AWP_c ?_); refine zcdN ?_ ?_ <;> intro hb hb2 <;> first | contradiction | (exfalso; omega) | ((try refine zH hb2 ?_); try clear hb2))
  | ((with_reducible refine AWP_c ?_); refine zcdD ?_ ?_ <;> intro hb hb2 <;> first | contradiction | (exfalso; omega) | ((try refine zH hb2 ?_); try clear hb2))
  | ((with_reducible refine AWP_c ?_); refine zcdM ?_ ?_ <;> intro hb <;> first | contradiction | (try refine zH hb ?_))
  | ((with_reducible refine AWP_c ?_); refine zcdB ?_ ?_ <;> intro hb <;> first | contradiction | (try refine zH hb ?_))
  | ((with_reducible refine awp_ret ?_); refine fin_r ?_)
  | ((with_reducible refine awp_ret ?_); refine fin_q ?_ ?_)
  | with_reducible refine fin_qn ?_ ?_
  | ((with_reducible refine awp_skip ?_); refine zS ?_)
  | with_reducible refine awp_block ?_
  | ((with_reducible refine awp_exit ?_); refine zS ?_)
  | ((with_reducible refine CallK_id ?_); refine zcF ?_; refine ⟨_, by first | fail | fail, fun _ => rfl, fun _ => rfl, rfl, ?_⟩; try refine zS ?_)
  | ((with_reducible refine CallK_id ?_); refine zcT [0, 1] ?_; refine ⟨_, _, by first | exact check_ok true _ _ | exact check_ok false _ _ | fail, ?_⟩; try refine zS ?_)
  | ((with_reducible refine awp_label ?_); try refine zS ?_)
  | ((with_reducible refine awp_goto ?_); try refine zS ?_)
  | ((with_reducible refine awp_scope0 ?_); try refine zS ?_)
  | exact True.intro
  | fail
  · have : decide (List.take p.length s = p) = pfx s p := by rw [Bool.eq_iff_iff, pfx_take, decide_eq_true_iff]
    simp [go_sem, ← this]
  · have : pfx s p = false := by rw [← Bool.not_eq_true]; intro h; have := pfx_len h; omega
    simp [go_sem, this]
theorem hasPrefix_ok (s p : Str) : AFn env 66 [aS s, aS p] [] (aB (pfx s p)) [] := by
  refine afn_body Tryd.func66 rfl (by decide) ?_
  simp only [Tryd.ntmps66, Tryd.results66, List.length_cons, List.length_nil, List.cons_append, List.nil_append, Nat.reduceAdd, Nat.reduceSub, List.replicate]
  repeat' first
  | with_reducible refine awp_seq ?_
  | ((with_reducible refine awp_region ?_); refine zS ?_)
  | ((with_reducible refine Gd_nd ?_ ?_) <;> intro hb hb2 <;> first | contradiction | (exfalso; omega) | (refine zH hb2 ?_; try clear hb2))
  | ((with_reducible refine Gd_nb ?_ ?_) <;> intro hb <;> first | contradiction | refine zH hb ?_)
  | ((with_reducible refine Gd_d ?_ ?_) <;> intro hb hb2 <;> first | contradiction | (exfalso; omega) | (refine zH hb2 ?_; try clear hb2))
  | ((with_reducible refine Gd_b ?_ ?_) <;> intro hb <;> first | contradiction | refine zH hb ?_)
  | ((with_reducible refine Res_id ?_); refine zS ?_)
  | ((with_reducible refine awp_drawnC ?_ ?_); rfl; refine zS ?_)
  | ((with_reducible refine awp_drawnA ?_ ?_); rfl; refine zS ?_)
  | ((with_reducible refine CGd_nd ?_ ?_) <;> intro hb hb2 <;> first | contradiction | (exfalso; omega) | (refine zH hb2 ?_; try clear hb2))
  | ((with_reducible refine CGd_nb ?_ ?_) <;> intro hb <;> first | contradiction | refine zH hb ?_)
  | ((with_reducible refine CGd_d ?_ ?_) <;> intro hb hb2 <;> first | contradiction | (exfalso; omega) | (refine zH hb2 ?_; try clear hb2))
  | ((with_reducible refine CGd_b ?_ ?_) <;> intro hb <;> first | contradiction | refine zH hb ?_)
  | ((with_reducible refine CRes_id ?_); refine zS ?_)
  | ((with_reducible refine DStep_id ?_); refine zdP ?_; refine ⟨_, by first | exact hasPrefix0_ok _ _ | fail, fun _ => rfl, fun _ => rfl, rfl, (fun h => by first | cases h | fail), ?_⟩; try refine zS ?_)
  | ((with_reducible refine DStep_id ?_); refine zdW ?_; refine ⟨_, by first | exact hasPrefix0_ok _ _ | fail, fun _ => rfl, fun _ => rfl, rfl, ?_⟩; try refine zS ?_)
  | ((with_reducible refine AWP_c ?_); refine zcdT ?_)
  | ((with_reducible refine AWP_c ?_); refine zcdF ?_)
  | ((with_reducible refine AWP_c ?_); refine zcdN ?_ ?_ <;> intro hb hb2 <;> first | contradiction | (exfalso; omega) | ((try refine zH hb2 ?_); try clear hb2))
  | ((with_reducible refine AWP_c ?_); refine zcdD ?_ ?_ <;> intro hb hb2 <;> first | contradiction | (exfalso; omega) | ((try refine zH hb2 ?_); try clear hb2))
  | ((with_reducible refine AWP_c ?_); refine zcdM ?_ ?_ <;> intro hb <;> first | contradiction | (try refine zH hb ?_))
  | ((with_reducible refine AWP_c ?_); refine zcdB ?_ ?_ <;> intro hb <;> first | contradiction | (try refine zH hb ?_))
  | ((with_reducible refine awp_ret ?_); refine fin_r ?_)
  | ((with_reducible refine awp_ret ?_); refine fin_q ?_ ?_)
  | with_reducible refine fin_qn ?_ ?_
  | ((with_reducible refine awp_skip ?_); refine zS ?_)
  | with_reducible refine awp_block ?_
  | ((with_reducible refine awp_exit ?_); refine zS ?_)
  | ((with_reducible refine CallK_id ?_); refine zcF ?_; refine ⟨_, by first | exact hasPrefix0_ok _ _ | fail, fun _ => rfl, fun _ => rfl, rfl, ?_⟩; try refine zS ?_)
  | ((with_reducible refine awp_label ?_); try refine zS ?_)
  | ((with_reducible refine awp_goto ?_); try refine zS ?_)
  | ((with_reducible refine awp_scope0 ?_); try refine zS ?_)
  | exact True.intro
  | fail
  all_goals rfl
theorem cutPrefix0_ok (s p : Str) : AFn env 64 [aS s, aS p] [] (.tup [aS (if pfx s p = true then s.drop p.length else s), aB (pfx s p)]) [] := by
  refine afn_body Tryd.func64 rfl (by decide) ?_
  simp only [Tryd.ntmps64, Tryd.results64, List.length_cons, List.length_nil, List.cons_append, List.nil_append, Nat.reduceAdd, Nat.reduceSub, List.replicate]
  repeat' first
  | with_reducible refine awp_seq ?_
  | ((with_reducible refine awp_region ?_); refine zS ?_)
  | ((with_reducible refine Gd_nd ?_ ?_) <;> intro hb hb2 <;> first | contradiction | (exfalso; omega) | (refine zH hb2 ?_; try clear hb2))
  | ((with_reducible refine Gd_nb ?_ ?_) <;> intro hb <;> first | contradiction | refine zH hb ?_)
  | ((with_reducible refine Gd_d ?_ ?_) <;> intro hb hb2 <;> first | contradiction | (exfalso; omega) | (refine zH hb2 ?_; try clear hb2))
  | ((with_reducible refine Gd_b ?_ ?_) <;> intro hb <;> first | contradiction | refine zH hb ?_)
  | ((with_reducible refine Res_id ?_); refine zS ?_)
  | ((with_reducible refine awp_drawnC ?_ ?_); rfl; refine zS ?_)
  | ((with_reducible refine awp_drawnA ?_ ?_); rfl; refine zS ?_)
  | ((with_reducible refine CGd_nd ?_ ?_) <;> intro hb hb2 <;> first | contradiction | (exfalso; omega) | (refine zH hb2 ?_; try clear hb2))
  | ((with_reducible refine CGd_nb ?_ ?_) <;> intro hb <;> first | contradiction | refine zH hb ?_)
  | ((with_reducible refine CGd_d ?_ ?_) <;> intro hb hb2 <;> first | contradiction | (exfalso; omega) | (refine zH hb2 ?_; try clear hb2))
  | ((with_reducible refine CGd_b ?_ ?_) <;> intro hb <;> first | contradiction | refine zH hb ?_)
  | ((with_reducible refine CRes_id ?_); refine zS ?_)
  | ((with_reducible refine DStep_id ?_); refine zdP ?_; refine ⟨_, by first | exact hasPrefix0_ok _ _ | fail, fun _ => rfl, fun _ => rfl, rfl, (fun h => by first | cases h | fail), ?_⟩; try refine zS ?_)
  | ((with_reducible refine DStep_id ?_); refine zdW ?_; refine ⟨_, by first | exact hasPrefix0_ok _ _ | fail, fun _ => rfl, fun _ => rfl, rfl, ?_⟩; try refine zS ?_)
  | ((with_reducible refine AWP_c ?_); refine zcdT ?_)
  | ((with_reducible refine AWP_c ?_); refine zcdF ?_)
  | ((with_reducible refine AWP_c ?_); refine zcdN ?_ ?_ <;> intro hb hb2 <;> first | contradiction | (exfalso; omega) | ((try refine zH hb2 ?_); try clear hb2))
  | ((with_reducible refine AWP_c ?_); refine zcdD ?_ ?_ <;> intro hb hb2 <;> first | contradiction | (exfalso; omega) | ((try refine zH hb2 ?_); try clear hb2))
  | ((with_reducible refine AWP_c ?_); refine zcdM ?_ ?_ <;> intro hb <;> first | contradiction | (try refine zH hb ?_))
  | ((with_reducible refine AWP_c ?_); refine zcdB ?_ ?_ <;> intro hb <;> first | contradiction | (try refine zH hb ?_))
  | ((with_reducible refine awp_ret ?_); refine fin_r ?_)
  | ((with_reducible refine awp_ret ?_); refine fin_q ?_ ?_)
  | with_reducible refine fin_qn ?_ ?_
  | ((with_reducible refine awp_skip ?_); refine zS ?_)
  | with_reducible refine awp_block ?_
  | ((with_reducible refine awp_exit ?_); refine zS ?_)
  | ((with_reducible refine CallK_id ?_); refine zcF ?_; refine ⟨_, by first | exact hasPrefix0_ok _ _ | fail, fun _ => rfl, fun _ => rfl, rfl, ?_⟩; try refine zS ?_)
  | ((with_reducible refine awp_label ?_); try refine zS ?_)
  | ((with_reducible refine awp_goto ?_); try refine zS ?_)
  | ((with_reducible refine awp_scope0 ?_); try refine zS ?_)
  | exact True.intro
  | fail
  · simp [go_sem, hb]
  have := pfx_len hb
  repeat' first
  | with_reducible refine awp_seq ?_
  | ((with_reducible refine awp_region ?_); refine zS ?_)
  | ((with_reducible refine Gd_nd ?_ ?_) <;> intro hb hb2 <;> first | contradiction | (exfalso; omega) | (refine zH hb2 ?_; try clear hb2))
  | ((with_reducible refine Gd_nb ?_ ?_) <;> intro hb <;> first | contradiction | refine zH hb ?_)
  | ((with_reducible refine Gd_d ?_ ?_) <;> intro hb hb2 <;> first | contradiction | (exfalso; omega) | (refine zH hb2 ?_; try clear hb2))
  | ((with_reducible refine Gd_b ?_ ?_) <;> intro hb <;> first | contradiction | refine zH hb ?_)
  | ((with_reducible refine Res_id ?_); refine zS ?_)
  | ((with_reducible refine awp_drawnC ?_ ?_); rfl; refine zS ?_)
  | ((with_reducible refine awp_drawnA ?_ ?_); rfl; refine zS ?_)
  | ((with_reducible refine CGd_nd ?_ ?_) <;> intro hb hb2 <;> first | contradiction | (exfalso; omega) | (refine zH hb2 ?_; try clear hb2))
  | ((with_reducible refine CGd_nb ?_ ?_) <;> intro hb <;> first | contradiction | refine zH hb ?_)
  | ((with_reducible refine CGd_d ?_ ?_) <;> intro hb hb2 <;> first | contradiction | (exfalso; omega) | (refine zH hb2 ?_; try clear hb2))
  | ((with_reducible refine CGd_b ?_ ?_) <;> intro hb <;> first | contradiction | refine zH hb ?_)
  | ((with_reducible refine CRes_id ?_); refine zS ?_)
  | ((with_reducible refine DStep_id ?_); refine zdP ?_; refine ⟨_, by first | exact hasPrefix0_ok _ _ | fail, fun _ => rfl, fun _ => rfl, rfl, (fun h => by first | cases h | fail), ?_⟩; try refine zS ?_)
  | ((with_reducible refine DStep_id ?_); refine zdW ?_; refine ⟨_, by first | exact hasPrefix0_ok _ _ | fail, fun _ => rfl, fun _ => rfl, rfl, ?_⟩; try refine zS ?_)
  | ((with_reducible refine AWP_c ?_); refine zcdT ?_)
  | ((with_reducible refine AWP_c ?_); refine zcdF ?_)
  | ((with_reducible refine AWP_c ?_); refine zcdN ?_ ?_ <;> intro hb hb2 <;> first | contradiction | (exfalso; omega) | ((try refine zH hb2 ?_); try clear hb2))
  | ((with_reducible refine AWP_c ?_); refine zcdD ?_ ?_ <;> intro hb hb2 <;> first | contradiction | (exfalso; omega) | ((try refine zH hb2 ?_); try clear hb2))
  | ((with_reducible refine AWP_c ?_); refine zcdM ?_ ?_ <;> intro hb <;> first | contradiction | (try refine zH hb ?_))
  | ((with_reducible refine AWP_c ?_); refine zcdB ?_ ?_ <;> intro hb <;> first | contradiction | (try refine zH hb ?_))
  | ((with_reducible refine awp_ret ?_); refine fin_r ?_)
  | ((with_reducible refine awp_ret ?_); refine fin_q ?_ ?_)
  | with_reducible refine fin_qn ?_ ?_
  | ((with_reducible refine awp_skip ?_); refine zS ?_)
  | with_reducible refine awp_block ?_
  | ((with_reducible refine awp_exit ?_); refine zS ?_)
  | ((with_reducible refine CallK_id ?_); refine zcF ?_; refine ⟨_, by first | exact hasPrefix0_ok _ _ | fail, fun _ => rfl, fun _ => rfl, rfl, ?_⟩; try refine zS ?_)
  | ((with_reducible refine awp_label ?_); try refine zS ?_)
  | ((with_reducible refine awp_goto ?_); try refine zS ?_)
  | ((with_reducible refine awp_scope0 ?_); try refine zS ?_)
  | exact True.intro
  | fail
  simp [go_sem, hb, subL_l]
theorem cutPrefix_ok (s p : Str) : AFn env 48 [aS s, aS p] [] (.tup [aS (if pfx s p = true then s.drop p.length else s), aB (pfx s p)]) [] := by
  refine afn_body Tryd.func48 rfl (by decide) ?_
  simp only [Tryd.ntmps48, Tryd.results48, List.length_cons, List.length_nil, List.cons_append, List.nil_append, Nat.reduceAdd, Nat.reduceSub, List.replicate]
  repeat' first
  | with_reducible refine awp_seq ?_
  | ((with_reducible refine awp_region ?_); refine zS ?_)
  | ((with_reducible refine Gd_nd ?_ ?_) <;> intro hb hb2 <;> first | contradiction | (exfalso; omega) | (refine zH hb2 ?_; try clear hb2))
  | ((with_reducible refine Gd_nb ?_ ?_) <;> intro hb <;> first | contradiction | refine zH hb ?_)
  | ((with_reducible refine Gd_d ?_ ?_) <;> intro hb hb2 <;> first | contradiction | (exfalso; omega) | (refine zH hb2 ?_; try clear hb2))
  | ((with_reducible refine Gd_b ?_ ?_) <;> intro hb <;> first | contradiction | refine zH hb ?_)
  | ((with_reducible refine Res_id ?_); refine zS ?_)
  | ((with_reducible refine awp_drawnC ?_ ?_); rfl; refine zS ?_)
  | ((with_reducible refine awp_drawnA ?_ ?_); rfl; refine zS ?_)
  | ((with_reducible refine CGd_nd ?_ ?_) <;> intro hb hb2 <;> first | contradiction | (exfalso; omega) | (refine zH hb2 ?_; try clear hb2))
  | ((with_reducible refine CGd_nb ?_ ?_) <;> intro hb <;> first | contradiction | refine zH hb ?_)
  | ((with_reducible refine CGd_d ?_ ?_) <;> intro hb hb2 <;> first | contradiction | (exfalso; omega) | (refine zH hb2 ?_; try clear hb2))
  | ((with_reducible refine CGd_b ?_ ?_) <;> intro hb <;> first | contradiction | refine zH hb ?_)
  | ((with_reducible refine CRes_id ?_); refine zS ?_)
  | ((with_reducible refine DStep_id ?_); refine zdP ?_; refine ⟨_, by first | exact cutPrefix0_ok _ _ | fail, fun _ => rfl, fun _ => rfl, rfl, (fun h => by first | cases h | fail), ?_⟩; try refine zS ?_)
  | ((with_reducible refine DStep_id ?_); refine zdW ?_; refine ⟨_, by first | exact cutPrefix0_ok _ _ | fail, fun _ => rfl, fun _ => rfl, rfl, ?_⟩; try refine zS ?_)
  | ((with_reducible refine AWP_c ?_); refine zcdT ?_)
  | ((with_reducible refine AWP_c ?_); refine zcdF ?_)
  | ((with_reducible refine AWP_c ?_); refine zcdN ?_ ?_ <;> intro hb hb2 <;> first | contradiction | (exfalso; omega) | ((try refine zH hb2 ?_); try clear hb2))
  | ((with_reducible refine AWP_c ?_); refine zcdD ?_ ?_ <;> intro hb hb2 <;> first | contradiction | (exfalso; omega) | ((try refine zH hb2 ?_); try clear hb2))
  | ((with_reducible refine AWP_c ?_); refine zcdM ?_ ?_ <;> intro hb <;> first | contradiction | (try refine zH hb ?_))
  | ((with_reducible refine AWP_c ?_); refine zcdB ?_ ?_ <;> intro hb <;> first | contradiction | (try refine zH hb ?_))
  | ((with_reducible refine awp_ret ?_); refine fin_r ?_)
  | ((with_reducible refine awp_ret ?_); refine fin_q ?_ ?_)
  | with_reducible refine fin_qn ?_ ?_
  | ((with_reducible refine awp_skip ?_); refine zS ?_)
  | with_reducible refine awp_block ?_
  | ((with_reducible refine awp_exit ?_); refine zS ?_)
  | ((with_reducible refine CallK_id ?_); refine zcF ?_; refine ⟨_, by first | exact cutPrefix0_ok _ _ | fail, fun _ => rfl, fun _ => rfl, rfl, ?_⟩; try refine zS ?_)
  | ((with_reducible refine awp_label ?_); try refine zS ?_)
  | ((with_reducible refine awp_goto ?_); try refine zS ?_)
  | ((with_reducible refine awp_scope0 ?_); try refine zS ?_)
  | exact True.intro
  | fail
  all_goals rfl
def sfx (s p : Str) : Bool := decide (p.length ≤ s.length) && decide (s.drop (s.length - p.length) = p)
theorem hasSuffix0_ok (s p : Str) (hs : s.length < 4611686018427387904) : AFn env 63 [aS s, aS p] [] (aB (sfx s p)) [] := by
  refine afn_body Tryd.func63 rfl (by decide) ?_
  simp only [Tryd.ntmps63, Tryd.results63, List.length_cons, List.length_nil, List.cons_append, List.nil_append, Nat.reduceAdd, Nat.reduceSub, List.replicate]
  repeat' first
  | with_reducible refine awp_seq ?_
  | ((with_reducible refine awp_region ?_); refine zS ?_)
  | ((with_reducible refine Gd_nd ?_ ?_) <;> intro hb hb2 <;> first | contradiction | (exfalso; omega) | (refine zH hb2 ?_; try clear hb2))
  | ((with_reducible refine Gd_nb ?_ ?_) <;> intro hb <;> first | contradiction | refine zH hb ?_)
  | ((with_reducible refine Gd_d ?_ ?_) <;> intro hb hb2 <;> first | contradiction | (exfalso; omega) | (refine zH hb2 ?_; try clear hb2))
  | ((with_reducible refine Gd_b ?_ ?_) <;> intro hb <;> first | contradiction | refine zH hb ?_)
  | ((with_reducible refine Res_id ?_); refine zS ?_)
  | ((with_reducible refine awp_drawnC ?_ ?_); rfl; refine zS ?_)
  | ((with_reducible refine awp_drawnA ?_ ?_); rfl; refine zS ?_)
  | ((with_reducible refine CGd_nd ?_ ?_) <;> intro hb hb2 <;> first | contradiction | (exfalso; omega) | (refine zH hb2 ?_; try clear hb2))
  | ((with_reducible refine CGd_nb ?_ ?_) <;> intro hb <;> first | contradiction | refine zH hb ?_)
  | ((with_reducible refine CGd_d ?_ ?_) <;> intro hb hb2 <;> first | contradiction | (exfalso; omega) | (refine zH hb2 ?_; try clear hb2))
  | ((with_reducible refine CGd_b ?_ ?_) <;> intro hb <;> first | contradiction | refine zH hb ?_)
  | ((with_reducible refine CRes_id ?_); refine zS ?_)
  | ((with_reducible refine DStep_id ?_); refine zdP ?_; refine ⟨_, by first | exact cutPrefix0_ok _ _ | fail, fun _ => rfl, fun _ => rfl, rfl, (fun h => by first | cases h | fail), ?_⟩; try refine zS ?_)
  | ((with_reducible refine DStep_id ?_); refine zdW ?_; refine ⟨_, by first | exact cutPrefix0_ok _ _ | fail, fun _ => rfl, fun _ => rfl, rfl, ?_⟩; try refine zS ?_)
  | ((with_reducible refine AWP_c ?_); refine zcdT ?_)
  | ((with_reducible refine AWP_c ?_); refine zcdF ?_)
  | ((with_reducible refine AWP_c ?_); refine zcdN ?_ ?_ <;> intro hb hb2 <;> first | contradiction | (exfalso; omega) | ((try refine zH hb2 ?_); try clear hb2))
  | ((with_reducible refine AWP_c ?_); refine zcdD ?_ ?_ <;> intro hb hb2 <;> first | contradiction | (exfalso; omega) | ((try refine zH hb2 ?_); try clear hb2))
  | ((with_reducible refine AWP_c ?_); refine zcdM ?_ ?_ <;> intro hb <;> first | contradiction | (try refine zH hb ?_))
  | ((with_reducible refine AWP_c ?_); refine zcdB ?_ ?_ <;> intro hb <;> first | contradiction | (try refine zH hb ?_))
  | ((with_reducible refine awp_ret ?_); refine fin_r ?_)
  | ((with_reducible refine awp_ret ?_); refine fin_q ?_ ?_)
  | with_reducible refine fin_qn ?_ ?_
  | ((with_reducible refine awp_skip ?_); refine zS ?_)
  | with_reducible refine awp_block ?_
  | ((with_reducible refine awp_exit ?_); refine zS ?_)
  | ((with_reducible refine CallK_id ?_); refine zcF ?_; refine ⟨_, by first | exact cutPrefix0_ok _ _ | fail, fun _ => rfl, fun _ => rfl, rfl, ?_⟩; try refine zS ?_)
  | ((with_reducible refine awp_label ?_); try refine zS ?_)
  | ((with_reducible refine awp_goto ?_); try refine zS ?_)
  | ((with_reducible refine awp_scope0 ?_); try refine zS ?_)
  | exact True.intro
  | fail
  all_goals first
    | (simp [go_sem, sfx, show p.length ≤ s.length by omega, show ((s.length : Int) - (p.length : Int)).toNat = s.length - p.length by omega]; done)
    | (simp [go_sem, sfx, show ¬ p.length ≤ s.length by omega]; done)
    | trace_state
def trimS (s p : Str) : Str := if sfx s p = true then s.take (s.length - p.length) else s
theorem trimSuffix0_ok (s p : Str) (hs : s.length < 4611686018427387904) : AFn env 43 [aS s, aS p] [] (aS (trimS s p)) [] := by
  have hp : sfx s p = true → p.length ≤ s.length := by simp only [sfx, Bool.and_eq_true, decide_eq_true_eq]; exact fun h => h.1
  refine afn_body Tryd.func43 rfl (by decide) ?_
  simp only [Tryd.ntmps43, Tryd.results43, List.length_cons, List.length_nil, List.cons_append, List.nil_append, Nat.reduceAdd, Nat.reduceSub, List.replicate]
  repeat' first
  | with_reducible refine awp_seq ?_
  | ((with_reducible refine awp_region ?_); refine zS ?_)
  | ((with_reducible refine Gd_nd ?_ ?_) <;> intro hb hb2 <;> first | contradiction | (exfalso; omega) | (refine zH hb2 ?_; try clear hb2))
  | ((with_reducible refine Gd_nb ?_ ?_) <;> intro hb <;> first | contradiction | refine zH hb ?_)
  | ((with_reducible refine Gd_d ?_ ?_) <;> intro hb hb2 <;> first | contradiction | (exfalso; omega) | (refine zH hb2 ?_; try clear hb2))
  | ((with_reducible refine Gd_b ?_ ?_) <;> intro hb <;> first | contradiction | refine zH hb ?_)
  | ((with_reducible refine Res_id ?_); refine zS ?_)
  | ((with_reducible refine awp_drawnC ?_ ?_); rfl; refine zS ?_)
  | ((with_reducible refine awp_drawnA ?_ ?_); rfl; refine zS ?_)
  | ((with_reducible refine CGd_nd ?_ ?_) <;> intro hb hb2 <;> first | contradiction | (exfalso; omega) | (refine zH hb2 ?_; try clear hb2))
  | ((with_reducible refine CGd_nb ?_ ?_) <;> intro hb <;> first | contradiction | refine zH hb ?_)
  | ((with_reducible refine CGd_d ?_ ?_) <;> intro hb hb2 <;> first | contradiction | (exfalso; omega) | (refine zH hb2 ?_; try clear hb2))
  | ((with_reducible refine CGd_b ?_ ?_) <;> intro hb <;> first | contradiction | refine zH hb ?_)
  | ((with_reducible refine CRes_id ?_); refine zS ?_)
  | ((with_reducible refine DStep_id ?_); refine zdP ?_; refine ⟨_, by first | exact hasSuffix0_ok _ _ hs | fail, fun _ => rfl, fun _ => rfl, rfl, (fun h => by first | cases h | fail), ?_⟩; try refine zS ?_)
  | ((with_reducible refine DStep_id ?_); refine zdW ?_; refine ⟨_, by first | exact hasSuffix0_ok _ _ hs | fail, fun _ => rfl, fun _ => rfl, rfl, ?_⟩; try refine zS ?_)
  | ((with_reducible refine AWP_c ?_); refine zcdT ?_)
  | ((with_reducible refine AWP_c ?_); refine zcdF ?_)
  | ((with_reducible refine AWP_c ?_); refine zcdN ?_ ?_ <;> intro hb hb2 <;> first | contradiction | (exfalso; omega) | ((try refine zH hb2 ?_); try clear hb2))
  | ((with_reducible refine AWP_c ?_); refine zcdD ?_ ?_ <;> intro hb hb2 <;> first | contradiction | (exfalso; omega) | ((try refine zH hb2 ?_); try clear hb2))
  | ((with_reducible refine AWP_c ?_); refine zcdM ?_ ?_ <;> intro hb <;> first | contradiction | (try refine zH hb ?_))
  | ((with_reducible refine AWP_c ?_); refine zcdB ?_ ?_ <;> intro hb <;> first | contradiction | (try refine zH hb ?_))
  | ((with_reducible refine awp_ret ?_); refine fin_r ?_)
  | ((with_reducible refine awp_ret ?_); refine fin_q ?_ ?_)
  | with_reducible refine fin_qn ?_ ?_
  | ((with_reducible refine awp_skip ?_); refine zS ?_)
  | with_reducible refine awp_block ?_
  | ((with_reducible refine awp_exit ?_); refine zS ?_)
  | ((with_reducible refine CallK_id ?_); refine zcF ?_; refine ⟨_, by first | exact hasSuffix0_ok _ _ hs | fail, fun _ => rfl, fun _ => rfl, rfl, ?_⟩; try refine zS ?_)
  | ((with_reducible refine awp_label ?_); try refine zS ?_)
  | ((with_reducible refine awp_goto ?_); try refine zS ?_)
  | ((with_reducible refine awp_scope0 ?_); try refine zS ?_)
  | exact True.intro
  | fail
  · have := hp ‹_›
    repeat' first
    | with_reducible refine awp_seq ?_
    | ((with_reducible refine awp_region ?_); refine zS ?_)
    | ((with_reducible refine Gd_nd ?_ ?_) <;> intro hb hb2 <;> first | contradiction | (exfalso; omega) | (refine zH hb2 ?_; try clear hb2))
    | ((with_reducible refine Gd_nb ?_ ?_) <;> intro hb <;> first | contradiction | refine zH hb ?_)
    | ((with_reducible refine Gd_d ?_ ?_) <;> intro hb hb2 <;> first | contradiction | (exfalso; omega) | (refine zH hb2 ?_; try clear hb2))
    | ((with_reducible refine Gd_b ?_ ?_) <;> intro hb <;> first | contradiction | refine zH hb ?_)
    | ((with_reducible refine Res_id ?_); refine zS ?_)
    | ((with_reducible refine awp_drawnC ?_ ?_); rfl; refine zS ?_)
    | ((with_reducible refine awp_drawnA ?_ ?_); rfl; refine zS ?_)
    | ((with_reducible refine CGd_nd ?_ ?_) <;> intro hb hb2 <;> first | contradiction | (exfalso; omega) | (refine zH hb2 ?_; try clear hb2))
    | ((with_reducible refine CGd_nb ?_ ?_) <;> intro hb <;> first | contradiction | refine zH hb ?_)
    | ((with_reducible refine CGd_d ?_ ?_) <;> intro hb hb2 <;> first | contradiction | (exfalso; omega) | (refine zH hb2 ?_; try clear hb2))
    | ((with_reducible refine CGd_b ?_ ?_) <;> intro hb <;> first | contradiction | refine zH hb ?_)
    | ((with_reducible refine CRes_id ?_); refine zS ?_)
    | ((with_reducible refine DStep_id ?_); refine zdP ?_; refine ⟨_, by first | exact hasSuffix0_ok _ _ hs | fail, fun _ => rfl, fun _ => rfl, rfl, (fun h => by first | cases h | fail), ?_⟩; try refine zS ?_)
    | ((with_reducible refine DStep_id ?_); refine zdW ?_; refine ⟨_, by first | exact hasSuffix0_ok _ _ hs | fail, fun _ => rfl, fun _ => rfl, rfl, ?_⟩; try refine zS ?_)
    | ((with_reducible refine AWP_c ?_); refine zcdT ?_)
    | ((with_reducible refine AWP_c ?_); refine zcdF ?_)
    | ((with_reducible refine AWP_c ?_); refine zcdN ?_ ?_ <;> intro hb hb2 <;> first | contradiction | (exfalso; omega) | ((try refine zH hb2 ?_); try clear hb2))
    | ((with_reducible refine AWP_c ?_); refine zcdD ?_ ?_ <;> intro hb hb2 <;> first | contradiction | (exfalso; omega) | ((try refine zH hb2 ?_); try clear hb2))
    | ((with_reducible refine AWP_c ?_); refine zcdM ?_ ?_ <;> intro hb <;> first | contradiction | (try refine zH hb ?_))
    | ((with_reducible refine AWP_c ?_); refine zcdB ?_ ?_ <;> intro hb <;> first | contradiction | (try refine zH hb ?_))
    | ((with_reducible refine awp_ret ?_); refine fin_r ?_)
    | ((with_reducible refine awp_ret ?_); refine fin_q ?_ ?_)
    | with_reducible refine fin_qn ?_ ?_
    | ((with_reducible refine awp_skip ?_); refine zS ?_)
    | with_reducible refine awp_block ?_
    | ((with_reducible refine awp_exit ?_); refine zS ?_)
    | ((with_reducible refine CallK_id ?_); refine zcF ?_; refine ⟨_, by first | exact hasSuffix0_ok _ _ hs | fail, fun _ => rfl, fun _ => rfl, rfl, ?_⟩; try refine zS ?_)
    | ((with_reducible refine awp_label ?_); try refine zS ?_)
    | ((with_reducible refine awp_goto ?_); try refine zS ?_)
    | ((with_reducible refine awp_scope0 ?_); try refine zS ?_)
    | exact True.intro
    | fail
    all_goals (simp [go_sem, trimS, *, show ((s.length : Int) - (p.length : Int)).toNat = s.length - p.length by omega])
  all_goals (simp [go_sem, trimS, *])
theorem trimSuffix_ok (s p : Str) (hs : s.length < 4611686018427387904) : AFn env 32 [aS s, aS p] [] (aS (trimS s p)) [] := by
  refine afn_body Tryd.func32 rfl (by decide) ?_
  simp only [Tryd.ntmps32, Tryd.results32, List.length_cons, List.length_nil, List.cons_append, List.nil_append, Nat.reduceAdd, Nat.reduceSub, List.replicate]
  repeat' first
  | with_reducible refine awp_seq ?_
  | ((with_reducible refine awp_region ?_); refine zS ?_)
  | ((with_reducible refine Gd_nd ?_ ?_) <;> intro hb hb2 <;> first | contradiction | (exfalso; omega) | (refine zH hb2 ?_; try clear hb2))
  | ((with_reducible refine Gd_nb ?_ ?_) <;> intro hb <;> first | contradiction | refine zH hb ?_)
  | ((with_reducible refine Gd_d ?_ ?_) <;> intro hb hb2 <;> first | contradiction | (exfalso; omega) | (refine zH hb2 ?_; try clear hb2))
  | ((with_reducible refine Gd_b ?_ ?_) <;> intro hb <;> first | contradiction | refine zH hb ?_)
  | ((with_reducible refine Res_id ?_); refine zS ?_)
  | ((with_reducible refine awp_drawnC ?_ ?_); rfl; refine zS ?_)
  | ((with_reducible refine awp_drawnA ?_ ?_); rfl; refine zS ?_)
  | ((with_reducible refine CGd_nd ?_ ?_) <;> intro hb hb2 <;> first | contradiction | (exfalso; omega) | (refine zH hb2 ?_; try clear hb2))
  | ((with_reducible refine CGd_nb ?_ ?_) <;> intro hb <;> first | contradiction | refine zH hb ?_)
  | ((with_reducible refine CGd_d ?_ ?_) <;> intro hb hb2 <;> first | contradiction | (exfalso; omega) | (refine zH hb2 ?_; try clear hb2))
  | ((with_reducible refine CGd_b ?_ ?_) <;> intro hb <;> first | contradiction | refine zH hb ?_)
  | ((with_reducible refine CRes_id ?_); refine zS ?_)
  | ((with_reducible refine DStep_id ?_); refine zdP ?_; refine ⟨_, by first | exact trimSuffix0_ok _ _ hs | fail, fun _ => rfl, fun _ => rfl, rfl, (fun h => by first | cases h | fail), ?_⟩; try refine zS ?_)
  | ((with_reducible refine DStep_id ?_); refine zdW ?_; refine ⟨_, by first | exact trimSuffix0_ok _ _ hs | fail, fun _ => rfl, fun _ => rfl, rfl, ?_⟩; try refine zS ?_)
  | ((with_reducible refine AWP_c ?_); refine zcdT ?_)
  | ((with_reducible refine AWP_c ?_); refine zcdF ?_)
  | ((with_reducible refine AWP_c ?_); refine zcdN ?_ ?_ <;> intro hb hb2 <;> first | contradiction | (exfalso; omega) | ((try refine zH hb2 ?_); try clear hb2))
  | ((with_reducible refine AWP_c ?_); refine zcdD ?_ ?_ <;> intro hb hb2 <;> first | contradiction | (exfalso; omega) | ((try refine zH hb2 ?_); try clear hb2))
  | ((with_reducible refine AWP_c ?_); refine zcdM ?_ ?_ <;> intro hb <;> first | contradiction | (try refine zH hb ?_))
  | ((with_reducible refine AWP_c ?_); refine zcdB ?_ ?_ <;> intro hb <;> first | contradiction | (try refine zH hb ?_))
  | ((with_reducible refine awp_ret ?_); refine fin_r ?_)
  | ((with_reducible refine awp_ret ?_); refine fin_q ?_ ?_)
  | with_reducible refine fin_qn ?_ ?_
  | ((with_reducible refine awp_skip ?_); refine zS ?_)
  | with_reducible refine awp_block ?_
  | ((with_reducible refine awp_exit ?_); refine zS ?_)
  | ((with_reducible refine CallK_id ?_); refine zcF ?_; refine ⟨_, by first | exact trimSuffix0_ok _ _ hs | fail, fun _ => rfl, fun _ => rfl, rfl, ?_⟩; try refine zS ?_)
  | ((with_reducible refine awp_label ?_); try refine zS ?_)
  | ((with_reducible refine awp_goto ?_); try refine zS ?_)
  | ((with_reducible refine awp_scope0 ?_); try refine zS ?_)
  | exact True.intro
  | fail
  all_goals rfl
theorem plain_ok (c : Int) : AFn env 44 [aU c] [] (aB (plainF c)) [] := by
  refine afn_body Tryd.func44 rfl (by decide) ?_
  simp only [Tryd.ntmps44, Tryd.results44, List.length_cons, List.length_nil, List.cons_append, List.nil_append, Nat.reduceAdd, Nat.reduceSub, List.replicate]
  repeat' first
  | with_reducible refine awp_seq ?_
  | ((with_reducible refine awp_region ?_); refine zS ?_)
  | ((with_reducible refine Gd_nd ?_ ?_) <;> intro hb hb2 <;> first | contradiction | (exfalso; omega) | (refine zH hb2 ?_; try clear hb2))
  | ((with_reducible refine Gd_nb ?_ ?_) <;> intro hb <;> first | contradiction | refine zH hb ?_)
  | ((with_reducible refine Gd_d ?_ ?_) <;> intro hb hb2 <;> first | contradiction | (exfalso; omega) | (refine zH hb2 ?_; try clear hb2))
  | ((with_reducible refine Gd_b ?_ ?_) <;> intro hb <;> first | contradiction | refine zH hb ?_)
  | ((with_reducible refine Res_id ?_); refine zS ?_)
  | ((with_reducible refine awp_drawnC ?_ ?_); rfl; refine zS ?_)
  | ((with_reducible refine awp_drawnA ?_ ?_); rfl; refine zS ?_)
  | ((with_reducible refine CGd_nd ?_ ?_) <;> intro hb hb2 <;> first | contradiction | (exfalso; omega) | (refine zH hb2 ?_; try clear hb2))
  | ((with_reducible refine CGd_nb ?_ ?_) <;> intro hb <;> first | contradiction | refine zH hb ?_)
  | ((with_reducible refine CGd_d ?_ ?_) <;> intro hb hb2 <;> first | contradiction | (exfalso; omega) | (refine zH hb2 ?_; try clear hb2))
  | ((with_reducible refine CGd_b ?_ ?_) <;> intro hb <;> first | contradiction | refine zH hb ?_)
  | ((with_reducible refine CRes_id ?_); refine zS ?_)
  | ((with_reducible refine DStep_id ?_); refine zdP ?_; refine ⟨_, by first | exact trimSuffix0_ok _ _ hs | fail, fun _ => rfl, fun _ => rfl, rfl, (fun h => by first | cases h | fail), ?_⟩; try refine zS ?_)
  | ((with_reducible refine DStep_id ?_); refine zdW ?_; refine ⟨_, by first | exact trimSuffix0_ok _ _ hs | fail, fun _ => rfl, fun _ => rfl, rfl, ?_⟩; try refine zS ?_)
  | ((with_reducible refine AWP_c ?_); refine zcdT ?_)
  | ((with_reducible refine AWP_c ?_); refine zcdF ?_)
  | ((with_reducible refine AWP_c ?_); refine zcdN ?_ ?_ <;> intro hb hb2 <;> first | contradiction | (exfalso; omega) | ((try refine zH hb2 ?_); try clear hb2))
  | ((with_reducible refine AWP_c ?_); refine zcdD ?_ ?_ <;> intro hb hb2 <;> first | contradiction | (exfalso; omega) | ((try refine zH hb2 ?_); try clear hb2))
  | ((with_reducible refine AWP_c ?_); refine zcdM ?_ ?_ <;> intro hb <;> first | contradiction | (try refine zH hb ?_))
  | ((with_reducible refine AWP_c ?_); refine zcdB ?_ ?_ <;> intro hb <;> first | contradiction | (try refine zH hb ?_))
  | ((with_reducible refine awp_ret ?_); refine fin_r ?_)
  | ((with_reducible refine awp_ret ?_); refine fin_q ?_ ?_)
  | with_reducible refine fin_qn ?_ ?_
  | ((with_reducible refine awp_skip ?_); refine zS ?_)
  | with_reducible refine awp_block ?_
  | ((with_reducible refine awp_exit ?_); refine zS ?_)
  | ((with_reducible refine CallK_id ?_); refine zcF ?_; refine ⟨_, by first | exact trimSuffix0_ok _ _ hs | fail, fun _ => rfl, fun _ => rfl, rfl, ?_⟩; try refine zS ?_)
  | ((with_reducible refine awp_label ?_); try refine zS ?_)
  | ((with_reducible refine awp_goto ?_); try refine zS ?_)
  | ((with_reducible refine awp_scope0 ?_); try refine zS ?_)
  | exact True.intro
  | fail
  all_goals simp [go_sem, plainF, *]
theorem letter_ok (c : Int) : AFn env 70 [aU c] [] (aB (letF c)) [] := by
  refine afn_body Tryd.func70 rfl (by decide) ?_
  simp only [Tryd.ntmps70, Tryd.results70, List.length_cons, List.length_nil, List.cons_append, List.nil_append, Nat.reduceAdd, Nat.reduceSub, List.replicate]
  repeat' first
  | with_reducible refine awp_seq ?_
  | ((with_reducible refine awp_region ?_); refine zS ?_)
  | ((with_reducible refine Gd_nd ?_ ?_) <;> intro hb hb2 <;> first | contradiction | (exfalso; omega) | (refine zH hb2 ?_; try clear hb2))
  | ((with_reducible refine Gd_nb ?_ ?_) <;> intro hb <;> first | contradiction | refine zH hb ?_)
  | ((with_reducible refine Gd_d ?_ ?_) <;> intro hb hb2 <;> first | contradiction | (exfalso; omega) | (refine zH hb2 ?_; try clear hb2))
  | ((with_reducible refine Gd_b ?_ ?_) <;> intro hb <;> first | contradiction | refine zH hb ?_)
  | ((with_reducible refine Res_id ?_); refine zS ?_)
  | ((with_reducible refine awp_drawnC ?_ ?_); rfl; refine zS ?_)
  | ((with_reducible refine awp_drawnA ?_ ?_); rfl; refine zS ?_)
  | ((with_reducible refine CGd_nd ?_ ?_) <;> intro hb hb2 <;> first | contradiction | (exfalso; omega) | (refine zH hb2 ?_; try clear hb2))
  | ((with_reducible refine CGd_nb ?_ ?_) <;> intro hb <;> first | contradiction | refine zH hb ?_)
  | ((with_reducible refine CGd_d ?_ ?_) <;> intro hb hb2 <;> first | contradiction | (exfalso; omega) | (refine zH hb2 ?_; try clear hb2))
  | ((with_reducible refine CGd_b ?_ ?_) <;> intro hb <;> first | contradiction | refine zH hb ?_)
  | ((with_reducible refine CRes_id ?_); refine zS ?_)
  | ((with_reducible refine DStep_id ?_); refine zdP ?_; refine ⟨_, by first | exact trimSuffix0_ok _ _ hs | fail, fun _ => rfl, fun _ => rfl, rfl, (fun h => by first | cases h | fail), ?_⟩; try refine zS ?_)
  | ((with_reducible refine DStep_id ?_); refine zdW ?_; refine ⟨_, by first | exact trimSuffix0_ok _ _ hs | fail, fun _ => rfl, fun _ => rfl, rfl, ?_⟩; try refine zS ?_)
  | ((with_reducible refine AWP_c ?_); refine zcdT ?_)
  | ((with_reducible refine AWP_c ?_); refine zcdF ?_)
  | ((with_reducible refine AWP_c ?_); refine zcdN ?_ ?_ <;> intro hb hb2 <;> first | contradiction | (exfalso; omega) | ((try refine zH hb2 ?_); try clear hb2))
  | ((with_reducible refine AWP_c ?_); refine zcdD ?_ ?_ <;> intro hb hb2 <;> first | contradiction | (exfalso; omega) | ((try refine zH hb2 ?_); try clear hb2))
  | ((with_reducible refine AWP_c ?_); refine zcdM ?_ ?_ <;> intro hb <;> first | contradiction | (try refine zH hb ?_))
  | ((with_reducible refine AWP_c ?_); refine zcdB ?_ ?_ <;> intro hb <;> first | contradiction | (try refine zH hb ?_))
  | ((with_reducible refine awp_ret ?_); refine fin_r ?_)
  | ((with_reducible refine awp_ret ?_); refine fin_q ?_ ?_)
  | with_reducible refine fin_qn ?_ ?_
  | ((with_reducible refine awp_skip ?_); refine zS ?_)
  | with_reducible refine awp_block ?_
  | ((with_reducible refine awp_exit ?_); refine zS ?_)
  | ((with_reducible refine CallK_id ?_); refine zcF ?_; refine ⟨_, by first | exact trimSuffix0_ok _ _ hs | fail, fun _ => rfl, fun _ => rfl, rfl, ?_⟩; try refine zS ?_)
  | ((with_reducible refine awp_label ?_); try refine zS ?_)
  | ((with_reducible refine awp_goto ?_); try refine zS ?_)
  | ((with_reducible refine awp_scope0 ?_); try refine zS ?_)
  | exact True.intro
  | fail
  all_goals simp [go_sem, letF, *]
theorem part_ok (c : Int) : AFn env 65 [aU c] [] (aB (partF c)) [] := by
  refine afn_body Tryd.func65 rfl (by decide) ?_
  simp only [Tryd.ntmps65, Tryd.results65, List.length_cons, List.length_nil, List.cons_append, List.nil_append, Nat.reduceAdd, Nat.reduceSub, List.replicate]
  repeat' first
  | with_reducible refine awp_seq ?_
  | ((with_reducible refine awp_region ?_); refine zS ?_)
  | ((with_reducible refine Gd_nd ?_ ?_) <;> intro hb hb2 <;> first | contradiction | (exfalso; omega) | (refine zH hb2 ?_; try clear hb2))
  | ((with_reducible refine Gd_nb ?_ ?_) <;> intro hb <;> first | contradiction | refine zH hb ?_)
  | ((with_reducible refine Gd_d ?_ ?_) <;> intro hb hb2 <;> first | contradiction | (exfalso; omega) | (refine zH hb2 ?_; try clear hb2))
  | ((with_reducible refine Gd_b ?_ ?_) <;> intro hb <;> first | contradiction | refine zH hb ?_)
  | ((with_reducible refine Res_id ?_); refine zS ?_)
  | ((with_reducible refine awp_drawnC ?_ ?_); rfl; refine zS ?_)
  | ((with_reducible refine awp_drawnA ?_ ?_); rfl; refine zS ?_)
  | ((with_reducible refine CGd_nd ?_ ?_) <;> intro hb hb2 <;> first | contradiction | (exfalso; omega) | (refine zH hb2 ?_; try clear hb2))
  | ((with_reducible refine CGd_nb ?_ ?_) <;> intro hb <;> first | contradiction | refine zH hb ?_)
  | ((with_reducible refine CGd_d ?_ ?_) <;> intro hb hb2 <;> first | contradiction | (exfalso; omega) | (refine zH hb2 ?_; try clear hb2))
  | ((with_reducible refine CGd_b ?_ ?_) <;> intro hb <;> first | contradiction | refine zH hb ?_)
  | ((with_reducible refine CRes_id ?_); refine zS ?_)
  | ((with_reducible refine DStep_id ?_); refine zdP ?_; refine ⟨_, by first | exact letter_ok _ | fail, fun _ => rfl, fun _ => rfl, rfl, (fun h => by first | cases h | fail), ?_⟩; try refine zS ?_)
  | ((with_reducible refine DStep_id ?_); refine zdW ?_; refine ⟨_, by first | exact letter_ok _ | fail, fun _ => rfl, fun _ => rfl, rfl, ?_⟩; try refine zS ?_)
  | ((with_reducible refine AWP_c ?_); refine zcdT ?_)
  | ((with_reducible refine AWP_c ?_); refine zcdF ?_)
  | ((with_reducible refine AWP_c ?_); refine zcdN ?_ ?_ <;> intro hb hb2 <;> first | contradiction | (exfalso; omega) | ((try refine zH hb2 ?_); try clear hb2))
  | ((with_reducible refine AWP_c ?_); refine zcdD ?_ ?_ <;> intro hb hb2 <;> first | contradiction | (exfalso; omega) | ((try refine zH hb2 ?_); try clear hb2))
  | ((with_reducible refine AWP_c ?_); refine zcdM ?_ ?_ <;> intro hb <;> first | contradiction | (try refine zH hb ?_))
  | ((with_reducible refine AWP_c ?_); refine zcdB ?_ ?_ <;> intro hb <;> first | contradiction | (try refine zH hb ?_))
  | ((with_reducible refine awp_ret ?_); refine fin_r ?_)
  | ((with_reducible refine awp_ret ?_); refine fin_q ?_ ?_)
  | with_reducible refine fin_qn ?_ ?_
  | ((with_reducible refine awp_skip ?_); refine zS ?_)
  | with_reducible refine awp_block ?_
  | ((with_reducible refine awp_exit ?_); refine zS ?_)
  | ((with_reducible refine CallK_id ?_); refine zcF ?_; refine ⟨_, by first | exact letter_ok _ | fail, fun _ => rfl, fun _ => rfl, rfl, ?_⟩; try refine zS ?_)
  | ((with_reducible refine awp_label ?_); try refine zS ?_)
  | ((with_reducible refine awp_goto ?_); try refine zS ?_)
  | ((with_reducible refine awp_scope0 ?_); try refine zS ?_)
  | exact True.intro
  | fail
  all_goals simp [go_sem, partF, *]
end Go.Eng
open Go Go.Proofs Go.RowKit
namespace Go.Eng
set_option linter.unusedSimpArgs false
set_option linter.unusedVariables false
set_option maxRecDepth 100000
set_option maxHeartbeats 8000000
theorem letter_calls (c : Int) (w : World) : Calls Tryd.prog 70 #[.int .u8 c] w fun e w' => e = .returned (.bool (letF c)) ∧ w' = w := by
  cases b1 : decide (97 ≤ c)
  all_goals
    go_enter Tryd.func70, Tryd.ntmps70
    go_wp2
    go_ret
    exact ⟨by simp only [letF, b1]; rfl, rfl⟩
theorem part_calls (c : Int) (w : World) : Calls Tryd.prog 65 #[.int .u8 c] w fun e w' => e = .returned (.bool (partF c)) ∧ w' = w := by
  have hl := letter_calls c
  generalize hL : letF c = L at hl
  have hp : partF c = (L || (decide (48 ≤ c) && decide (c ≤ 57)) || decide (c = 45)) := by rw [partF, hL]
  rw [hp]
  cases b2 : decide (48 ≤ c)
  all_goals cases b3 : decide (c ≤ 57)
  all_goals cases L
  all_goals
    go_enter Tryd.func65, Tryd.ntmps65
    go_wp2_with (first | (go_at_call 70; (with_reducible refine (hl _).mono ?_); rintro e w' ⟨rfl, hw⟩; replace hw := hw.symm; subst hw))
    go_ret
    exact ⟨by simp only [b2, b3]; first | rfl | (simp [BEq.beq]; done), rfl⟩
structure Hid (p : Prop) : Prop where
  out : p
theorem bt_at (l : Str) (p : Nat) (h : p < (st l).size) : (((st l)[p]'h).toNat : Int) = byteAt l p := by
  have h' : p < l.length := by simpa [st, ByteArray.size] using h
  have : (st l)[p]'h = l[p]'h' := rfl
  rw [this, byteAt_gt, gt, List.getD_eq_getElem?_getD, List.getElem?_eq_getElem h']; rfl
theorem st_size (l : Str) : (st l).size = l.length := by simp [st, ByteArray.size]
theorem ptU_hi {c : UInt8} (h : 126 < (c.toNat : Int)) : ptU c = false := by
  simp [ptU, partF, letF]; omega
theorem Name_calls (l : Str) (w : World) : Calls Tryd.prog 58 #[.string (st l)] w fun e w' => e = .returned (.bool (isName l)) ∧ Below w.heap.size w w' := by
  have hsz := st_size l
  generalize ha : st l = a at hsz
  have hbt : ∀ p (h : p < a.size), ((a[p]'h).toNat : Int) = byteAt l p := by subst ha; exact bt_at l
  go_enter Tryd.func58, Tryd.ntmps58
  by_cases c0 : l = []
  · subst c0
    obtain rfl : a = ⟨#[]⟩ := ha.symm
    go_wp2
    go_ret
    exact ⟨rfl, Below.refl _ _⟩
  have hne : 0 < l.length := List.length_pos_iff.2 c0
  have c0b0 : a.toList.isEmpty = false := by
    cases hl : a.toList with
    | nil =>
      rw [ByteArray.toList_eq] at hl
      have : a.size = 0 := by rw [show a.size = a.data.toList.length from rfl, hl]; rfl
      omega
    | cons x l => rfl
  by_cases c1 : 24 < l.length
  · have c1b0 : decide ((24 : Int) < (a.size : Int)) = true := decide_eq_true (by omega)
    go_wp2
    go_ret
    exact ⟨by rw [isName]; simp [c0]; intro h; omega, Below.refl _ _⟩
  have c1b0 : decide ((24 : Int) < (a.size : Int)) = false := decide_eq_false (by omega)
  have hx0 : ∀ h : 0 < a.size, ((a[0]'h).toNat : Int) = byteAt l 0 := hbt 0
  have q0 := eq_true (show 0 < a.size by omega)
  have hl := letter_calls (byteAt l 0)
  have hN : isName l = (letF (byteAt l 0) && l.all ptU) := by rw [isName]; simp [c0, show l.length ≤ 24 by omega]
  rw [hN]
  generalize letF (byteAt l 0) = L at hl ⊢
  cases L
  · go_wp2_with (first | (go_at_call 70; (with_reducible refine (hl _).mono ?_); rintro e w' ⟨rfl, hw⟩; replace hw := hw.symm; subst hw))
    go_ret
    exact ⟨rfl, Below.refl _ _⟩
  · go_wp2_with (first | (go_at_call 70; (with_reducible refine (hl _).mono ?_); rintro e w' ⟨rfl, hw⟩; replace hw := hw.symm; subst hw))
    go_loopg [4] (a.size + 1) (fun kq v4 w' => ∃ (p : Nat), w' = w.iter a p ∧ Hid (p ≤ l.length ∧ (l.drop p).all ptU = l.all ptU) ∧ Hid (a.size + 1 ≤ p + kq))
    case atStart => exact ⟨0, rfl, ⟨⟨Nat.zero_le _, rfl⟩⟩, ⟨by omega⟩⟩
    case round =>
      obtain ⟨p, rfl, HL, HK⟩ := hrel
      obtain ⟨gk, rfl⟩ : ∃ q, gk = q + 1 := ⟨gk - 1, by have := HK.out; have := HL.out.1; omega⟩
      by_cases hp : p < a.size
      · have hc := hbt p hp
        have hl2 := HL.out.2
        rw [drop_gt (show p < l.length by omega), List.all_cons] at hl2
        have hgt : ptU (gt l p) = partF (byteAt l p) := rfl
        by_cases hc1 : 126 < byteAt l p
        · obtain ⟨R, hR, hnx⟩ : ∃ R : Int, 126 < R ∧ ∀ ty, (Instr.next (.pointer (some ⟨w.heap.size, 0, none⟩)) true ty).run Tryd.prog (w.iter a p) = .ok (.tuple #[.bool true, .int .i64 (p : Int), .int .i32 R]) (w.iter a (p + (Utf8.decode a p).2)) := by
            refine ⟨((Utf8.decode a p).1 : Int), ?_, fun ty => run_next_any w a p ty hp⟩
            by_cases ha : (a[p]'hp).toNat < 128
            · rw [decode_ascii a p hp ha]
              show 126 < (((a[p]'hp).toNat : Nat) : Int)
              omega
            · have := (decode_high a p hp (by omega)).1
              omega
          have hcb : decide (126 < R) = true := decide_eq_true hR
          go_wp2
          go_ret
          rw [show ptU (gt l p) = false from ptU_hi hc1] at hl2
          rw [← hl2]
          exact ⟨rfl, (Below.refl _ _).alloc (Nat.le_refl _) _⟩
        · have hnx : ∀ ty, (Instr.next (.pointer (some ⟨w.heap.size, 0, none⟩)) true ty).run Tryd.prog (w.iter a p) = .ok (.tuple #[.bool true, .int .i64 (p : Int), .int .i32 (byteAt l p)]) (w.iter a (p + 1)) := fun ty => by
            rw [← hc]
            exact run_next_ascii w a p ty hp (by omega)
          have hcb : decide (126 < byteAt l p) = false := decide_eq_false hc1
          have hw8 : byteAt l p % 256 = byteAt l p := by omega
          have hq := part_calls (byteAt l p)
          rw [hgt] at hl2
          generalize partF (byteAt l p) = K at hq hl2
          cases K
          · go_wp2_with (first | (go_at_call 65; (with_reducible refine (hq _).mono ?_); rintro e w' ⟨rfl, hw⟩; replace hw := hw.symm; subst hw))
            go_ret
            rw [← hl2]
            exact ⟨rfl, (Below.refl _ _).alloc (Nat.le_refl _) _⟩
          · go_wp2_with (first | (go_at_call 65; (with_reducible refine (hq _).mono ?_); rintro e w' ⟨rfl, hw⟩; replace hw := hw.symm; subst hw))
            go_roundg gk
            case measure => omega
            case rel => exact ⟨p + 1, rfl, ⟨⟨by omega, hl2⟩⟩, ⟨by have := HK.out; omega⟩⟩
      · have hnx : ∀ ty, (Instr.next (.pointer (some ⟨w.heap.size, 0, none⟩)) true ty).run Tryd.prog (w.iter a p) = .ok (.tuple #[.bool false]) (w.iter a p) := fun ty => run_next_end w a p ty hp
        have hl2 := HL.out.2
        rw [List.drop_eq_nil_of_le (by omega)] at hl2
        go_wp2
        go_ret
        rw [← hl2]
        exact ⟨rfl, (Below.refl _ _).alloc (Nat.le_refl _) _⟩
theorem afn_plain {E : Env} {f : FuncId} {v r : Value} (hf : fnOk E.P f = true) (hr : one r = true) (h : ∀ w : World, Calls E.P f #[v] w fun e w' => e = .returned r ∧ Below w.heap.size w w') (hv : one v = true) :
    AFn E f [.c (.d (.sc v))] [] (.c (.d (.sc r))) [] := by
  refine ⟨hf, fun B vs w hB hm hs => ?_⟩
  obtain ⟨x, O, rfl, hR, hT⟩ := hs
  obtain ⟨u0, hu0, hv0⟩ := hT.2 0 _ rfl
  cases hv0 with | c _ _ hv0 => cases hv0 with | d _ _ hv0 => cases hv0 with | sc _ _ =>
  obtain rfl := arr1 hT.1 (by simpa using hu0)
  refine Calls.mono (h x.w) ?_
  rintro e w' ⟨rfl, hb⟩
  have hk : ∀ k, k < x.w.heap.size → w'.heap[k]? = x.w.heap[k]? := fun k hk => hb.block k hk
  refine ⟨_, rfl, { w := w', F := x.F, μ := x.μ, N := x.N, L := x.L }, fun _ _ => False, rfl, ?_, TR.one (.c _ _ (.d _ _ (.sc _ hr)))⟩
  have hle : x.Le { w := w', F := x.F, μ := x.μ, N := x.N, L := x.L } := ⟨fun k h => ⟨h, hk k (hR.fr k h).1⟩, hb.size, Nat.le_refl _, fun i hi s m hm => by
    have hL : x.L = 0 := hR.hL
    omega⟩
  exact ⟨hR.hL, hR.hN, hR.le.trans hle, hb.os.trans hR.os, hb.tape.trans hR.tape, hb.output.trans hR.output, fun k h hA => (hk k (Nat.lt_of_lt_of_le h hR.le.size)).trans (hR.keep k h hA), fun _ _ h => h.elim, fun k h => ⟨Nat.lt_of_lt_of_le (hR.fr k h).1 hb.size, (hR.fr k h).2⟩, fun _ _ _ h => h.elim, fun _ _ h => h.elim, fun i b h => by simp at h⟩
theorem name_ok (s : Str) : AFn env 58 [aS s] [] (aB (isName s)) [] := afn_plain (by kernel_rfl) rfl (Name_calls s) rfl
end Go.Eng
