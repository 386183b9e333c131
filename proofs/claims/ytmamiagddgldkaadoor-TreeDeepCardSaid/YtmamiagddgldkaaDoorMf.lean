/- Each function of the program, walked over plain data: what it comes to, at all arguments. -/
import Derived.Test.YtmamiagddgldkaaDoorMa
import Derived.Test.YtmamiagddgldkaaDoorEg
import Derived.WalkKit
import Derived.Laws.Externs
import Derived.Laws.AppendOwn
import Derived.Maps.AppendAt
import Derived.Deep.AppendLies
import Derived.Test.YtmamiagddgldkaaDoorMb
open Go Go.Proofs Go.RowKit
namespace Go.Eng
set_option linter.unusedSimpArgs false
set_option linter.unusedVariables false
set_option maxRecDepth 100000
set_option maxHeartbeats 4000000
structure RW where
  name : Str
  text : Str
  av : Value
  ka : Option Addr
  kn : Nat
  kc : Nat
  ks : List Value
instance : Inhabited RW := ⟨⟨[], [], .slice none 0 0, none, 0, 0, []⟩⟩
def RW.kv (r : RW) : Value := .slice r.ka r.kn r.kc
def RW.cells (r : RW) : List Value := [.string (st r.name), r.av, .slice r.ka r.kn r.kc, .string (st r.text)]
def RW.row (r : RW) : List D := [dS r.name, .sc r.av, .sc (.slice r.ka r.kn r.kc), dS r.text]
structure OE where
  name : Str
  text : Str
  ats : List At
  kids : List El
instance : Inhabited OE := ⟨⟨[], [], [], []⟩⟩
def KidsAre (w : World) (F : Nat → Prop) (ks : List Value) (kids : List El) : Prop := ks.length = kids.length * 4 ∧ ∀ (i : Nat) e c d, kids[i]? = some e → e.row[c]? = some d → ∃ u, ks[i * 4 + c]? = some u ∧ DR w F d u
structure AR (w : World) (F : Nat → Prop) (r : RW) (o : OE) : Prop where
  name : r.name = o.name
  text : r.text = o.text
  one : one r.av = true
  av : DR w F (.fz (o.ats.map At.row)) r.av
  ks : KidsAre w F r.ks o.kids
structure Kd (w : World) (F O : Nat → Prop) (rws : List RW) (os : List OE) : Prop where
  len : rws.length = os.length
  kid : ∀ (i : Nat) r, rws[i]? = some r → w.ownsRow 0 25 4 r.kv r.kn r.ks
  own : ∀ (i : Nat) r, rws[i]? = some r → ∀ k, r.kv.ownBlock = some k → O k
  dis : ∀ (i j : Nat) r s k, rws[i]? = some r → rws[j]? = some s → r.kv.ownBlock = some k → s.kv.ownBlock = some k → i = j
  ar : ∀ (i : Nat) r o, rws[i]? = some r → os[i]? = some o → AR w F r o
theorem own_at {w : World} {e size n : Nat} {v : Value} {xs : List Value} (h : w.ownsRow 0 e size v n xs) : ∀ k, v.ownBlock = some k → ∃ cs, w.heap[k]? = some (.cells cs e (0, 0)) := by
  intro k hk
  rcases h.2 with ⟨rfl, _⟩ | ⟨g, cap, cur, rfl, _, hg, _⟩
  · cases hk
  · cases hk; exact ⟨_, hg⟩
theorem own_same {w w' : World} {e size n : Nat} {v : Value} {xs : List Value} (h : w.ownsRow 0 e size v n xs) (hk : ∀ k, v.ownBlock = some k → w'.heap[k]? = w.heap[k]?) : w'.ownsRow 0 e size v n xs := by
  refine ⟨h.1, ?_⟩
  rcases h.2 with h1 | ⟨g, cap, cur, rfl, h0, hg, h2⟩
  · exact .inl h1
  · exact .inr ⟨g, cap, cur, rfl, h0, (hk g rfl).trans hg, h2⟩
theorem own_slice {w : World} {e size n : Nat} {v : Value} {xs : List Value} (h : w.ownsRow 0 e size v n xs) : ∃ a c, v = .slice a n c := by
  rcases h.2 with ⟨rfl, rfl⟩ | ⟨g, cap, cur, rfl, _⟩
  · exact ⟨_, _, rfl⟩
  · exact ⟨_, _, rfl⟩
theorem KidsAre.mono {w w' : World} {F F' : Nat → Prop} {ks : List Value} {kids : List El} (h : KidsAre w F ks kids) (hF : ∀ k, F k → F' k ∧ w'.heap[k]? = w.heap[k]?) : KidsAre w' F' ks kids :=
  ⟨h.1, fun i e c d h1 h2 => let ⟨u, h3, h4⟩ := h.2 i e c d h1 h2; ⟨u, h3, h4.mono hF⟩⟩
theorem AR.mono {w w' : World} {F F' : Nat → Prop} {r : RW} {o : OE} (h : AR w F r o) (hF : ∀ k, F k → F' k ∧ w'.heap[k]? = w.heap[k]?) : AR w' F' r o :=
  ⟨h.name, h.text, h.one, h.av.mono hF, h.ks.mono hF⟩
theorem Kd.mono {w w' : World} {F F' O O' : Nat → Prop} {rws : List RW} {os : List OE} (h : Kd w F O rws os) (hF : ∀ k, F k → F' k ∧ w'.heap[k]? = w.heap[k]?) (hO : ∀ k, O k → O' k) (hk : ∀ k, O k → w'.heap[k]? = w.heap[k]?) : Kd w' F' O' rws os :=
  ⟨h.len, fun i r hr => own_same (h.kid i r hr) (fun k hb => hk k (h.own i r hr k hb)), fun i r hr k hb => hO k (h.own i r hr k hb), h.dis, fun i r o h1 h2 => (h.ar i r o h1 h2).mono hF⟩
def kidsR (rws : List RW) (os : List OE) : Raw := ⟨fun w F O m => m = none ∧ Kd w F O rws os, fun hF hO hk h => ⟨h.1, h.2.mono hF hO hk⟩⟩
def Wh (w : World) (F : Nat → Prop) (uv : Value) : Option El → Prop
  | none => uv = .pointer none
  | some e => ∃ G o, uv = .pointer (some ⟨G, o, none⟩) ∧ F G ∧ ∀ (c : Nat) d, e.row[c]? = some d → ∃ u, w.cell? ⟨G, o + c, none⟩ = some u ∧ DR w F d u
theorem Wh.mono {w w' : World} {F F' : Nat → Prop} {uv : Value} {wh : Option El} (h : Wh w F uv wh) (hF : ∀ k, F k → F' k ∧ w'.heap[k]? = w.heap[k]?) : Wh w' F' uv wh := by
  cases wh with
  | none => exact h
  | some e =>
    obtain ⟨G, o, h1, h2, h3⟩ := h
    refine ⟨G, o, h1, (hF G h2).1, fun c d hd => ?_⟩
    obtain ⟨u, h4, h5⟩ := h3 c d hd
    exact ⟨u, (cell_of (hF G h2).2 _).trans h4, h5.mono hF⟩
def StkR (w : World) (sv : Value) (S : Option Nat) (rws : List RW) : Prop :=
  (S = none ∧ sv = .slice none 0 0 ∧ rws = []) ∨ ∃ g cap cur t a, S = some g ∧ sv = .slice (some a) rws.length cap ∧ (cap = 0 ∨ a = ⟨g, 0, none⟩) ∧ w.heap[g]? = some (.cells cur t (0, 0)) ∧ rws.length ≤ cap ∧ cap * 4 ≤ cur.size ∧ ∀ (i c : Nat) r u, rws[i]? = some r → r.cells[c]? = some u → cur[i * 4 + c]? = some u
theorem StkR.same {w w' : World} {sv : Value} {S : Option Nat} {rws : List RW} (h : StkR w sv S rws) (hk : ∀ k, S = some k → w'.heap[k]? = w.heap[k]?) : StkR w' sv S rws := by
  rcases h with h | ⟨g, cap, cur, t, a, h1, h2, h3, h4, h5⟩
  · exact .inl h
  · exact .inr ⟨g, cap, cur, t, a, h1, h2, h3, (hk g h1).trans h4, h5⟩
structure Par (w : World) (F O : Nat → Prop) (P : Nat) (os : List OE) (wh : Option El) (sv uv : Value) (S : Option Nat) (rws : List RW) : Prop where
  p : ∃ t, w.heap[P]? = some (.cells #[sv, uv] t (0, 0))
  row : StkR w sv S rws
  kd : Kd w F (fun k => O k ∧ k ≠ P ∧ S ≠ some k) rws os
  oP : O P
  oS : ∀ k, S = some k → O k ∧ k ≠ P
  wh : Wh w F uv wh
theorem Par.mono {w w' : World} {F F' O O' : Nat → Prop} {P : Nat} {os : List OE} {wh : Option El} {sv uv : Value} {S : Option Nat} {rws : List RW} (h : Par w F O P os wh sv uv S rws) (hF : ∀ k, F k → F' k ∧ w'.heap[k]? = w.heap[k]?) (hO : ∀ k, O k → O' k) (hk : ∀ k, O k → w'.heap[k]? = w.heap[k]?) : Par w' F' O' P os wh sv uv S rws :=
  ⟨let ⟨t, hp⟩ := h.p; ⟨t, (hk P h.oP).trans hp⟩, h.row.same (fun k hb => hk k (h.oS k hb).1), h.kd.mono hF (fun k hb => ⟨hO k hb.1, hb.2⟩) (fun k hb => hk k hb.1), hO P h.oP, fun k hb => ⟨hO k (h.oS k hb).1, (h.oS k hb).2⟩, h.wh.mono hF⟩
def parR (os : List OE) (wh : Option El) : Raw := ⟨fun w F O m => ∃ P sv uv S rws, m = some (P, 0) ∧ Par w F O P os wh sv uv S rws, fun hF hO hk ⟨P, sv, uv, S, rws, h1, h2⟩ => ⟨P, sv, uv, S, rws, h1, h2.mono hF hO hk⟩⟩
def wC : Option El → C
  | none => .d (.sc (.pointer none))
  | some e => .pf e.row 0
section
variable {B : Base} {x : Ctx} {O : Nat → Nat → Prop}
theorem par_open {os : List OE} {wh : Option El} (hR : Rel B x O [some (.raw (parR os wh))]) : ∃ rws : List RW, rws.length = os.length ∧ (∀ (i : Nat) r o, rws[i]? = some r → os[i]? = some o → r.name = o.name ∧ r.text = o.text ∧ r.kn = o.kids.length) ∧
    ∃ y O', y.w = x.w ∧ x.Le y ∧ y.F = x.F ∧ Rel B y O' [some (.box [.own 1 0 rws.length rws.length, wC wh]), some (.rows 4 (rws.map RW.row)), some (.raw (kidsR rws os))] := by
  obtain ⟨h0, P, sv, uv, S, rws, hm, hp⟩ := hR.blk 0 _ rfl
  have hL : x.L = 1 := hR.hL
  refine ⟨rws, hp.kd.len, fun i r o h1 h2 => ?_, ?_⟩
  · have ha := hp.kd.ar i r o h1 h2
    refine ⟨ha.name, ha.text, ?_⟩
    have h3 := (hp.kd.kid i r h1).1
    have h4 := ha.ks.1
    omega
  have hH : ∀ i, nOf [some (.box [.own 1 0 rws.length rws.length, wC wh]), some (.rows 4 (rws.map RW.row)), some (.raw (kidsR rws os))] i = (match i with | 0 => some (0, 0) | 1 => some (4, rws.length) | 2 => some (0, 0) | _ => none) := fun i => by
    match i with
    | 0 => rfl
    | 1 => simp [nOf]
    | 2 => rfl
    | i + 3 => simp [nOf]
  let y : Ctx := { w := x.w, F := x.F, μ := fun i => if i = 0 then some (P, 0) else if i = 1 then S.map (fun g => (g, 0)) else none, N := nOf [some (.box [.own 1 0 rws.length rws.length, wC wh]), some (.rows 4 (rws.map RW.row)), some (.raw (kidsR rws os))], L := 3 }
  have hle : x.Le y := ⟨fun k hk => ⟨hk, rfl⟩, Nat.le_refl _, (by show x.L ≤ 3; omega), fun i hi s m hn => by
    obtain rfl : i = 0 := by rw [hL] at hi; omega
    have hn' : (some (0, 0) : Option (Nat × Nat)) = some (s, m) := (hH 0).symm.trans hn
    cases hn'
    exact ⟨0, by rw [hR.hN]; rfl, Nat.le_refl _, fun _ => ⟨hm.symm, fun _ _ _ => rfl⟩⟩⟩
  refine ⟨y, fun i k => if i = 0 then k = P else if i = 1 then S = some k else i = 2 ∧ O 0 k ∧ k ≠ P ∧ S ≠ some k, rfl, hle, rfl, rfl, fun _ => rfl, hR.le.trans hle, hR.os, hR.tape, hR.output, hR.keep, fun i k hk => ?_, hR.fr, fun i j k hi hj => ?_, fun i k hk hf => ?_, fun i b hb => ?_⟩
  · split at hk
    · subst hk; exact hR.own 0 _ hp.oP
    · split at hk
      · exact hR.own 0 _ (hp.oS k hk).1
      · exact hR.own 0 _ hk.2.1
  · split at hi <;> split at hj
    · omega
    · split at hj
      · subst hi; exact absurd rfl (hp.oS _ hj).2
      · exact absurd hi hj.2.2.1
    · split at hi
      · subst hj; exact absurd rfl (hp.oS _ hi).2
      · exact absurd hj hi.2.2.1
    · split at hi <;> split at hj
      · omega
      · exact absurd hi hj.2.2.2
      · exact absurd hj hi.2.2.2
      · omega
  · split at hk
    · subst hk; exact hR.nof 0 _ hp.oP hf
    · split at hk
      · exact hR.nof 0 _ (hp.oS k hk).1 hf
      · exact hR.nof 0 _ hk.2.1 hf
  · match i, hb with
    | 0, hb =>
      cases hb
      obtain ⟨t, hpp⟩ := hp.p
      refine ⟨P, #[sv, uv], t, rfl, rfl, hpp, rfl, fun i c hc => ?_⟩
      match i, hc with
      | 0, hc =>
        cases hc
        have hone : one sv = true := by rcases hp.row with ⟨_, h, _⟩ | ⟨_, _, _, _, _, _, h, _⟩ <;> rw [h] <;> rfl
        refine ⟨sv, rfl, .own _ _ _ _ _ ⟨hone, (by show 1 < 3; decide), fun s m hsm => ?_⟩⟩
        have hsm' : (some (4, rws.length) : Option (Nat × Nat)) = some (s, m) := (hH 1).symm.trans hsm
        cases hsm'
        refine ⟨Nat.le_refl _, fun _ => ?_⟩
        rcases hp.row with ⟨h0, h1, h2⟩ | ⟨g, cap, cur, t', a, h0, h1, h2, h3, h4, h5, h6⟩
        · have : y.μ 1 = none := by show (S.map _) = none; rw [h0]; rfl
          rw [this]; subst h2; exact ⟨h1, rfl, rfl, rfl⟩
        · have : y.μ 1 = some (g, 0) := by show (S.map _) = _; rw [h0]; rfl
          rw [this]
          exact ⟨a, cap, cur.size, h1, h2.imp id (fun h => by rw [h]), Nat.le_refl _, by omega, by omega, h4, by show bsz x.w g = _; unfold bsz; rw [h3], by omega⟩
      | 1, hc =>
        cases hc
        refine ⟨uv, rfl, ?_⟩
        cases wh with
        | none => have h1 : uv = .pointer none := hp.wh; rw [h1]; exact .d _ _ (.sc _ rfl)
        | some e =>
          obtain ⟨G, o, h1, h2, h3⟩ := hp.wh
          rw [h1]
          exact .pf e.row 0 G o (fun _ => h2) h3
    | 1, hb =>
      cases hb
      refine ⟨by decide, fun r hr => by obtain ⟨a, _, rfl⟩ := List.mem_map.1 hr; rfl, ?_⟩
      rcases hp.row with ⟨h0, h1, h2⟩ | ⟨g, cap, cur, t', a, h0, h1, h2, h3, h4, h5, h6⟩
      · left
        exact ⟨by show (S.map _) = none; rw [h0]; rfl, by rw [h2]; rfl⟩
      · right
        refine ⟨g, 0, cur, t', by show (S.map _) = _; rw [h0]; rfl, h0, h3, Nat.zero_le _, by rw [List.length_map]; exact Nat.le_trans (Nat.mul_le_mul_right _ h4) h5, fun i r c d _ hr hd => ?_⟩
        rw [List.getElem?_map] at hr
        obtain ⟨rw_, hrw, rfl⟩ := Option.map_eq_some_iff.1 hr
        have hi : i < rws.length := (List.getElem?_eq_some_iff.1 hrw).1
        have key : ∀ u, rw_.cells[c]? = some u → cur[(i - 0) * 4 + c]? = some u := fun u hu => h6 i c rw_ u hrw hu
        have ho : i < os.length := by rw [← hp.kd.len]; exact hi
        have ha := hp.kd.ar i rw_ _ hrw (List.getElem?_eq_getElem ho)
        match c, hd with
        | 0, hd => cases hd; exact ⟨_, key _ rfl, .sc _ rfl⟩
        | 1, hd => cases hd; exact ⟨_, key _ rfl, .sc _ ha.one⟩
        | 2, hd => cases hd; exact ⟨_, key _ rfl, .sc _ rfl⟩
        | 3, hd => cases hd; exact ⟨_, key _ rfl, .sc _ rfl⟩
    | 2, hb =>
      cases hb
      exact ⟨fun g lo h => (by cases h), rfl, hp.kd.mono (fun k hk => ⟨hk, rfl⟩) (fun k hk => ⟨rfl, hk⟩) (fun _ _ => rfl)⟩
theorem Rel.merge {H : Heap} (hR : Rel B x O H) {j : Nat} (hB : B.x.L = j + 1) (h0 : nOf H 0 = some (0, 0)) {P : Nat} (hμ : x.μ 0 = some (P, 0)) (w' : World) (F' O1 : Nat → Prop) (r : Raw)
    (hos : w'.os = x.w.os) (htape : w'.tape = x.w.tape) (hout : w'.output = x.w.output) (hsize : x.w.heap.size ≤ w'.heap.size) (hkeep : ∀ k, k < x.w.heap.size → (∀ i, ¬ O i k) → w'.heap[k]? = x.w.heap[k]?)
    (hF : ∀ k, x.F k → F' k) (hFn : ∀ k, F' k → (x.F k ∨ (∃ i, O i k) ∨ x.w.heap.size ≤ k) ∧ k < w'.heap.size) (hO1 : ∀ k, O1 k → ((∃ i, O i k) ∨ x.w.heap.size ≤ k) ∧ k < w'.heap.size) (hdj : ∀ k, O1 k → ¬ F' k)
    (hbs : bsz w' P = bsz x.w P) (hP : O1 P) (hr : r.R w' F' O1 (some (P, 0))) : ∃ y O', y.w = w' ∧ x.L ≤ H.length ∧ y.F = F' ∧ Rel B y O' (some (.raw r) :: List.replicate j none) := by
  have hFk : ∀ k, x.F k → w'.heap[k]? = x.w.heap[k]? := fun k hk => hkeep k (hR.fr k hk).1 (fun i hi => hR.nof i k hi hk)
  have hH : ∀ i, nOf (some (.raw r) :: List.replicate j none) i = if i = 0 then some (0, 0) else none := fun i => by
    cases i with
    | zero => rfl
    | succ i => simp only [nOf, List.getElem?_cons_succ, List.getElem?_replicate]; split <;> (first | (rename_i h; split at h <;> simp at h; done) | rfl | simp)
  let y : Ctx := { w := w', F := F', μ := fun _ => some (P, 0), N := nOf (some (.raw r) :: List.replicate j none), L := j + 1 }
  refine ⟨y, fun i k => i = 0 ∧ O1 k, rfl, by rw [hR.hL]; exact Nat.le_refl _, rfl, (by show j + 1 = _; simp), fun _ => rfl, ⟨fun k hk => ?_, Nat.le_trans hR.le.size hsize, by rw [hB]; exact Nat.le_refl _, fun i hi s m hn => ?_⟩, hos.trans hR.os, htape.trans hR.tape, hout.trans hR.output, fun k hk hA => ?_, fun i k hk => ?_, fun k hk => ?_, fun i j k hi hj => by rw [hi.1, hj.1], fun i k hk hf => hdj k hk.2 hf, fun i b hb => ?_⟩
  · obtain ⟨h1, h2⟩ := hR.le.F k hk
    exact ⟨hF k h1, (hFk k h1).trans h2⟩
  · have hn0 : (if i = 0 then some (0, 0) else none : Option (Nat × Nat)) = some (s, m) := (hH i).symm.trans hn
    obtain rfl : i = 0 := by
      by_cases e : i = 0
      · exact e
      · rw [if_neg e] at hn0; cases hn0
    have hn' : (some (0, 0) : Option (Nat × Nat)) = some (s, m) := hn0
    cases hn'
    obtain ⟨n, h1, h2, h3⟩ := hR.le.N 0 hi 0 0 (by rw [hR.hN]; exact h0)
    refine ⟨n, h1, h2, fun h => ?_⟩
    obtain ⟨h4, h5⟩ := h3 h
    refine ⟨hμ.symm.trans h4, fun b lo hb => ?_⟩
    have hbP : some (b, lo) = some (P, 0) := hb.symm.trans (h4.symm.trans hμ)
    cases hbP
    exact hbs.trans (h5 _ _ hb)
  · refine (hkeep k (Nat.lt_of_lt_of_le hk hR.le.size) (fun i hi => ?_)).trans (hR.keep k hk hA)
    rcases (hR.own i k hi).2 with h | h
    · exact hA h
    · omega
  · obtain ⟨h1, h2⟩ := hO1 k hk.2
    refine ⟨h2, ?_⟩
    rcases h1 with ⟨j, h1⟩ | h1
    · exact (hR.own j k h1).2
    · exact .inr (Nat.le_trans hR.le.size h1)
  · obtain ⟨h1, h2⟩ := hFn k hk
    refine ⟨h2, ?_⟩
    rcases h1 with h1 | ⟨j, h1⟩ | h1
    · exact (hR.fr k h1).2
    · exact .inr (hR.own j k h1).2
    · exact .inr (.inr (Nat.le_trans hR.le.size h1))
  · match i, hb with
    | 0, hb =>
      cases hb
      exact ⟨fun g lo h => by
        have h' : some (P, 0) = some (g, lo) := h
        cases h'; exact ⟨rfl, hP⟩, r.mono (fun k h => ⟨h, rfl⟩) (fun k h => ⟨rfl, h⟩) (fun _ _ => rfl) hr⟩
    | i + 1, hb =>
      exfalso
      rw [List.getElem?_cons_succ, List.getElem?_replicate] at hb
      split at hb <;> cases hb
theorem DR.sc_eq {w : World} {F : Nat → Prop} {v u : Value} (h : DR w F (.sc v) u) : u = v := by cases h; rfl
theorem par_close {H : Heap} (hR : Rel B x O H) {j : Nat} (hB : B.x.L = j + 1) {n N : Nat} {rs : List (List D)} {rws0 : List RW} {os0 os : List OE} {wh : Option El} {ty1 ty2 : Option TypeId}
    (h0 : H[0]? = some (some (.box [.own 1 0 n N, wC wh] ty1))) (h1 : H[1]? = some (some (.rows 4 rs ty2))) (hn : N = rs.length) (h2 : H[2]? = some (some (.raw (kidsR rws0 os0))))
    (hq : ∀ cell : Nat → Nat → Value, (∀ (i c : Nat) r d, rs[i]? = some r → r[c]? = some d → DR x.w x.F d (cell i c) ∧ one (cell i c) = true) → ∃ rws : List RW, rws.length = n ∧ (∀ (i c : Nat) r u, rws[i]? = some r → r.cells[c]? = some u → u = cell i c ∧ ∃ r' d, rs[i]? = some r' ∧ r'[c]? = some d) ∧ (∀ O', Kd x.w x.F O' rws0 os0 → Kd x.w x.F O' rws os)) :
    ∃ y O', y.w = x.w ∧ Rel B y O' (some (.raw (parR os wh)) :: List.replicate j none) := by
  obtain ⟨P, cs, t, hμ, hO, hh, hcs⟩ := hR.blk 0 _ h0
  obtain ⟨sv, hsv, hvs⟩ := hcs.2 0 _ rfl
  obtain ⟨uv, huv, hvu⟩ := hcs.2 1 _ rfl
  obtain rfl := arr2 hcs.1 hsv huv
  obtain ⟨_, hrl, hrw⟩ := hR.blk 1 _ h1
  obtain ⟨_, hkd⟩ := hR.blk 2 _ h2
  have hkd : Kd x.w x.F (O 2) rws0 os0 := hkd.2
  cases hvs with | own _ _ _ _ _ hvs =>
  have hN1 : x.N 1 = some (4, rs.length) := by rw [hR.hN]; simp [nOf, h1]
  have hsl := (hvs.2.2 4 rs.length hN1).2 hn
  have hwh : Wh x.w x.F uv wh := by
    cases wh with
    | none => cases hvu with | d _ _ h => exact h.sc_eq
    | some e =>
      cases hvu with | pf _ _ b o hF hc =>
      exact ⟨b, o, by simp, hF (by rw [El.row_eq]; simp), hc⟩
  have hNd : ∀ i j k, i ≠ j → O i k → ¬ O j k := fun i j k hij h h' => hij (hR.disj i j k h h')
  have fin : ∀ (S : Option Nat) (rws : List RW), StkR x.w sv S rws → (∀ k, S = some k → O 1 k) → Kd x.w x.F (O 2) rws os → ∃ y O', y.w = x.w ∧ Rel B y O' (some (.raw (parR os wh)) :: List.replicate j none) := fun S rws hS hSO hK => by
    have hSP : ∀ k, S = some k → k ≠ P := fun k hk e => hNd 1 0 k (by decide) (hSO k hk) (e ▸ hO)
    obtain ⟨y, O', e1, _, _, R1⟩ := hR.merge hB (by simp [nOf, h0]) hμ x.w x.F (fun k => ∃ i, O i k) (parR os wh) rfl rfl rfl (Nat.le_refl _) (fun _ _ _ => rfl) (fun _ h => h) (fun k h => ⟨.inl h, (hR.fr k h).1⟩)
      (fun k h => ⟨.inl h, let ⟨i, hi⟩ := h; (hR.own i k hi).1⟩) (fun k h hf => let ⟨i, hi⟩ := h; hR.nof i k hi hf) rfl ⟨0, hO⟩
      ⟨P, sv, uv, S, rws, rfl, ⟨⟨_, hh⟩, hS, hK.mono (fun k h => ⟨h, rfl⟩) (fun k hk => ⟨⟨2, hk⟩, fun e => hNd 2 0 k (by decide) hk (e ▸ hO), fun hs => hNd 1 2 k (by decide) (hSO k hs) hk⟩) (fun _ _ => rfl), ⟨0, hO⟩, fun k hk => ⟨⟨1, hSO k hk⟩, hSP k hk⟩, hwh⟩⟩
    exact ⟨y, O', e1, R1⟩
  rcases hrw with ⟨hm, hrs⟩ | ⟨g, lo, vs, t', hm, hOg, hg, hlo, hsz, hc⟩
  · rw [hm] at hsl
    subst hrs
    obtain ⟨rws, hl, _, hK⟩ := hq (fun _ _ => undef) (fun i c r d hr => by simp at hr)
    obtain rfl : rws = [] := List.length_eq_zero_iff.1 (hl.trans hsl.2.2.1)
    exact fin none [] (.inl ⟨rfl, hsl.1, rfl⟩) (fun k hk => by cases hk) (hK _ hkd)
  · rw [hm] at hsl
    obtain ⟨a, cap, sz, hsv2, ha, hlo0, hl1, hl2, hl3, hbs, hb2⟩ := hsl
    obtain rfl : lo = 0 := by omega
    have hbs' : vs.size = sz := by unfold bsz at hbs; rw [hg] at hbs; exact Option.some.inj hbs
    obtain ⟨rws, hl, hcell, hK⟩ := hq (fun i c => vs.getD (i * 4 + c) undef) (fun i c r d hr hd => by
      obtain ⟨u, hu, hdr⟩ := hc i r c d (Nat.zero_le _) hr hd
      have : vs.getD (i * 4 + c) undef = u := by rw [Array.getD_eq_getD_getElem?]; simp only [Nat.sub_zero] at hu; rw [hu]; rfl
      show DR _ _ _ (vs.getD (i * 4 + c) undef) ∧ _
      rw [this]
      exact ⟨hdr, hdr.one⟩)
    refine fin (some g) rws (.inr ⟨g, cap, vs, _, a, rfl, by rw [hl]; exact hsv2, ha.imp id (fun h => by simpa using h), hg, by rw [hl]; exact hl3, by rw [hbs']; omega, fun i c r u hr hu => ?_⟩) (fun k hk => by cases hk; exact hOg) (hK _ hkd)
    obtain ⟨h5, r', d, h6, h7⟩ := hcell i c r u hr hu
    obtain ⟨u', hu', _⟩ := hc i r' c d (Nat.zero_le _) h6 h7
    simp only [Nat.sub_zero] at hu'
    rw [h5, Array.getD_eq_getD_getElem?, hu']; rfl
end
end Go.Eng
open Go Go.Proofs
namespace Go.Eng
set_option linter.unusedSimpArgs false
set_option linter.unusedVariables false
set_option maxRecDepth 100000
set_option maxHeartbeats 8000000
theorem awp_open {E : Env} {c : Code} {T : List A} {Q : Exit → List A → Heap → Prop} {os : List OE} {wh : Option El}
    (h : ∀ rws : List RW, rws.length = os.length → (∀ (i : Nat) r o, rws[i]? = some r → os[i]? = some o → r.name = o.name ∧ r.text = o.text ∧ r.kn = o.kids.length) → AWP E c T [some (.box [.own 1 0 rws.length rws.length, wC wh]), some (.rows 4 (rws.map RW.row)), some (.raw (kidsR rws os))] Q 1) :
    AWP E c T [some (.raw (parR os wh))] Q 1 := by
  intro B a w hB hm hs
  obtain ⟨hd, x, O, rfl, hR, hT⟩ := hs
  obtain ⟨rws, h1, h2, y, O', e1, l1, f1, R1⟩ := par_open hR
  exact h rws h1 h2 B a x.w hB hm ⟨hd, y, O', e1, R1, hT.mono l1⟩
theorem nbeq {a b : Nat} (h : a = b) : (a == b) = true := by simp [h]
attribute [go_sem] RW.row nbeq
theorem top_ok (rs : List (List D)) (n : Nat) (ty : Option TypeId) (hn : rs.length = n + 1) (hl : n < 1000000) (h4 : (rowsAt rs n).length = 4) : AFn env 35 [.c (.own 0 0 (n + 1) (n + 1))] [some (.rows 4 rs ty)] (.c (.ptr 0 n 0 (n + 1))) [some (.rows 4 rs ty)] := by
  have e : (((n + 1 : Nat) : Int) - 1) = (n : Int) := by omega
  refine afn_body Tryd.func35 rfl (by decide) ?_
  simp only [Tryd.ntmps35, Tryd.results35, List.length_cons, List.length_nil, List.cons_append, List.nil_append, Nat.reduceAdd, Nat.reduceSub, List.replicate]
  repeat' first
  | with_reducible refine awp_seq ?_
  | ((with_reducible refine awp_region ?_); simp (maxSteps := 500000) (disch := omega) only [go_sem, Bool.not_not, List.mem_singleton, forall_eq, ↓reduceIte, if_pos, rowsAt_map, wrap64, wrapu8, List.getElem?_cons_zero, List.getElem?_cons_succ, Int.reduceToNat, Nat.reduceAdd, Nat.reduceBEq, Bool.or_false, Bool.false_or, Bool.true_or, Nat.reduceSub, Nat.reduceMul, Int.reduceAdd, Int.reduceEq, Int.reduceLT, Int.reduceLE, Int.reduceNeg, Nat.reduceLT, Nat.reduceLeDiff, Nat.reduceEqDiff, e, hn])
  | ((with_reducible refine Gd_nd ?_ ?_) <;> intro hb hb2 <;> first | contradiction | (exfalso; omega) | (simp (maxSteps := 500000) (disch := omega) only [go_sem, Bool.not_not, List.mem_singleton, forall_eq, ↓reduceIte, if_pos, rowsAt_map, wrap64, wrapu8, List.getElem?_cons_zero, List.getElem?_cons_succ, Int.reduceToNat, Nat.reduceAdd, Nat.reduceBEq, Bool.or_false, Bool.false_or, Bool.true_or, Nat.reduceSub, Nat.reduceMul, Int.reduceAdd, Int.reduceEq, Int.reduceLT, Int.reduceLE, Int.reduceNeg, Nat.reduceLT, Nat.reduceLeDiff, Nat.reduceEqDiff, e, hn, hb2]; try clear hb2))
  | ((with_reducible refine Gd_nb ?_ ?_) <;> intro hb <;> first | contradiction | simp (maxSteps := 500000) (disch := omega) only [go_sem, Bool.not_not, List.mem_singleton, forall_eq, ↓reduceIte, if_pos, rowsAt_map, wrap64, wrapu8, List.getElem?_cons_zero, List.getElem?_cons_succ, Int.reduceToNat, Nat.reduceAdd, Nat.reduceBEq, Bool.or_false, Bool.false_or, Bool.true_or, Nat.reduceSub, Nat.reduceMul, Int.reduceAdd, Int.reduceEq, Int.reduceLT, Int.reduceLE, Int.reduceNeg, Nat.reduceLT, Nat.reduceLeDiff, Nat.reduceEqDiff, e, hn, hb])
  | ((with_reducible refine Gd_d ?_ ?_) <;> intro hb hb2 <;> first | contradiction | (exfalso; omega) | (simp (maxSteps := 500000) (disch := omega) only [go_sem, Bool.not_not, List.mem_singleton, forall_eq, ↓reduceIte, if_pos, rowsAt_map, wrap64, wrapu8, List.getElem?_cons_zero, List.getElem?_cons_succ, Int.reduceToNat, Nat.reduceAdd, Nat.reduceBEq, Bool.or_false, Bool.false_or, Bool.true_or, Nat.reduceSub, Nat.reduceMul, Int.reduceAdd, Int.reduceEq, Int.reduceLT, Int.reduceLE, Int.reduceNeg, Nat.reduceLT, Nat.reduceLeDiff, Nat.reduceEqDiff, e, hn, hb2]; try clear hb2))
  | ((with_reducible refine Gd_b ?_ ?_) <;> intro hb <;> first | contradiction | simp (maxSteps := 500000) (disch := omega) only [go_sem, Bool.not_not, List.mem_singleton, forall_eq, ↓reduceIte, if_pos, rowsAt_map, wrap64, wrapu8, List.getElem?_cons_zero, List.getElem?_cons_succ, Int.reduceToNat, Nat.reduceAdd, Nat.reduceBEq, Bool.or_false, Bool.false_or, Bool.true_or, Nat.reduceSub, Nat.reduceMul, Int.reduceAdd, Int.reduceEq, Int.reduceLT, Int.reduceLE, Int.reduceNeg, Nat.reduceLT, Nat.reduceLeDiff, Nat.reduceEqDiff, e, hn, hb])
  | ((with_reducible refine Res_id ?_); simp (maxSteps := 500000) (disch := omega) only [go_sem, Bool.not_not, List.mem_singleton, forall_eq, ↓reduceIte, if_pos, rowsAt_map, wrap64, wrapu8, List.getElem?_cons_zero, List.getElem?_cons_succ, Int.reduceToNat, Nat.reduceAdd, Nat.reduceBEq, Bool.or_false, Bool.false_or, Bool.true_or, Nat.reduceSub, Nat.reduceMul, Int.reduceAdd, Int.reduceEq, Int.reduceLT, Int.reduceLE, Int.reduceNeg, Nat.reduceLT, Nat.reduceLeDiff, Nat.reduceEqDiff, e, hn])
  | ((with_reducible refine awp_drawnC ?_ ?_); rfl; simp (maxSteps := 500000) (disch := omega) only [go_sem, Bool.not_not, List.mem_singleton, forall_eq, ↓reduceIte, if_pos, rowsAt_map, wrap64, wrapu8, List.getElem?_cons_zero, List.getElem?_cons_succ, Int.reduceToNat, Nat.reduceAdd, Nat.reduceBEq, Bool.or_false, Bool.false_or, Bool.true_or, Nat.reduceSub, Nat.reduceMul, Int.reduceAdd, Int.reduceEq, Int.reduceLT, Int.reduceLE, Int.reduceNeg, Nat.reduceLT, Nat.reduceLeDiff, Nat.reduceEqDiff, e, hn])
  | ((with_reducible refine awp_drawnA ?_ ?_); rfl; simp (maxSteps := 500000) (disch := omega) only [go_sem, Bool.not_not, List.mem_singleton, forall_eq, ↓reduceIte, if_pos, rowsAt_map, wrap64, wrapu8, List.getElem?_cons_zero, List.getElem?_cons_succ, Int.reduceToNat, Nat.reduceAdd, Nat.reduceBEq, Bool.or_false, Bool.false_or, Bool.true_or, Nat.reduceSub, Nat.reduceMul, Int.reduceAdd, Int.reduceEq, Int.reduceLT, Int.reduceLE, Int.reduceNeg, Nat.reduceLT, Nat.reduceLeDiff, Nat.reduceEqDiff, e, hn])
  | ((with_reducible refine CGd_nd ?_ ?_) <;> intro hb hb2 <;> first | contradiction | (exfalso; omega) | (simp (maxSteps := 500000) (disch := omega) only [go_sem, Bool.not_not, List.mem_singleton, forall_eq, ↓reduceIte, if_pos, rowsAt_map, wrap64, wrapu8, List.getElem?_cons_zero, List.getElem?_cons_succ, Int.reduceToNat, Nat.reduceAdd, Nat.reduceBEq, Bool.or_false, Bool.false_or, Bool.true_or, Nat.reduceSub, Nat.reduceMul, Int.reduceAdd, Int.reduceEq, Int.reduceLT, Int.reduceLE, Int.reduceNeg, Nat.reduceLT, Nat.reduceLeDiff, Nat.reduceEqDiff, e, hn, hb2]; try clear hb2))
  | ((with_reducible refine CGd_nb ?_ ?_) <;> intro hb <;> first | contradiction | simp (maxSteps := 500000) (disch := omega) only [go_sem, Bool.not_not, List.mem_singleton, forall_eq, ↓reduceIte, if_pos, rowsAt_map, wrap64, wrapu8, List.getElem?_cons_zero, List.getElem?_cons_succ, Int.reduceToNat, Nat.reduceAdd, Nat.reduceBEq, Bool.or_false, Bool.false_or, Bool.true_or, Nat.reduceSub, Nat.reduceMul, Int.reduceAdd, Int.reduceEq, Int.reduceLT, Int.reduceLE, Int.reduceNeg, Nat.reduceLT, Nat.reduceLeDiff, Nat.reduceEqDiff, e, hn, hb])
  | ((with_reducible refine CGd_d ?_ ?_) <;> intro hb hb2 <;> first | contradiction | (exfalso; omega) | (simp (maxSteps := 500000) (disch := omega) only [go_sem, Bool.not_not, List.mem_singleton, forall_eq, ↓reduceIte, if_pos, rowsAt_map, wrap64, wrapu8, List.getElem?_cons_zero, List.getElem?_cons_succ, Int.reduceToNat, Nat.reduceAdd, Nat.reduceBEq, Bool.or_false, Bool.false_or, Bool.true_or, Nat.reduceSub, Nat.reduceMul, Int.reduceAdd, Int.reduceEq, Int.reduceLT, Int.reduceLE, Int.reduceNeg, Nat.reduceLT, Nat.reduceLeDiff, Nat.reduceEqDiff, e, hn, hb2]; try clear hb2))
  | ((with_reducible refine CGd_b ?_ ?_) <;> intro hb <;> first | contradiction | simp (maxSteps := 500000) (disch := omega) only [go_sem, Bool.not_not, List.mem_singleton, forall_eq, ↓reduceIte, if_pos, rowsAt_map, wrap64, wrapu8, List.getElem?_cons_zero, List.getElem?_cons_succ, Int.reduceToNat, Nat.reduceAdd, Nat.reduceBEq, Bool.or_false, Bool.false_or, Bool.true_or, Nat.reduceSub, Nat.reduceMul, Int.reduceAdd, Int.reduceEq, Int.reduceLT, Int.reduceLE, Int.reduceNeg, Nat.reduceLT, Nat.reduceLeDiff, Nat.reduceEqDiff, e, hn, hb])
  | ((with_reducible refine CRes_id ?_); simp (maxSteps := 500000) (disch := omega) only [go_sem, Bool.not_not, List.mem_singleton, forall_eq, ↓reduceIte, if_pos, rowsAt_map, wrap64, wrapu8, List.getElem?_cons_zero, List.getElem?_cons_succ, Int.reduceToNat, Nat.reduceAdd, Nat.reduceBEq, Bool.or_false, Bool.false_or, Bool.true_or, Nat.reduceSub, Nat.reduceMul, Int.reduceAdd, Int.reduceEq, Int.reduceLT, Int.reduceLE, Int.reduceNeg, Nat.reduceLT, Nat.reduceLeDiff, Nat.reduceEqDiff, e, hn])
  | ((with_reducible refine DStep_id ?_); refine dcallP ⟨_, rfl⟩ rfl (by simp (maxSteps := 500000) (disch := omega) only [go_sem, Bool.not_not, List.mem_singleton, forall_eq, ↓reduceIte, if_pos, rowsAt_map, wrap64, wrapu8, List.getElem?_cons_zero, List.getElem?_cons_succ, Int.reduceToNat, Nat.reduceAdd, Nat.reduceBEq, Bool.or_false, Bool.false_or, Bool.true_or, Nat.reduceSub, Nat.reduceMul, Int.reduceAdd, Int.reduceEq, Int.reduceLT, Int.reduceLE, Int.reduceNeg, Nat.reduceLT, Nat.reduceLeDiff, Nat.reduceEqDiff, e, hn]; first | done | rfl | fail) ?_; refine ⟨_, by first | fail | fail, ?_⟩; refine ⟨fun _ => rfl, fun _ => rfl, rfl, (fun h => by first | cases h | fail), ?_⟩; try simp (maxSteps := 500000) (disch := omega) only [go_sem, Bool.not_not, List.mem_singleton, forall_eq, ↓reduceIte, if_pos, rowsAt_map, wrap64, wrapu8, List.getElem?_cons_zero, List.getElem?_cons_succ, Int.reduceToNat, Nat.reduceAdd, Nat.reduceBEq, Bool.or_false, Bool.false_or, Bool.true_or, Nat.reduceSub, Nat.reduceMul, Int.reduceAdd, Int.reduceEq, Int.reduceLT, Int.reduceLE, Int.reduceNeg, Nat.reduceLT, Nat.reduceLeDiff, Nat.reduceEqDiff, e, hn])
  | ((with_reducible refine DStep_id ?_); refine dcallPw ⟨_, rfl⟩ rfl (by simp (maxSteps := 500000) (disch := omega) only [go_sem, Bool.not_not, List.mem_singleton, forall_eq, ↓reduceIte, if_pos, rowsAt_map, wrap64, wrapu8, List.getElem?_cons_zero, List.getElem?_cons_succ, Int.reduceToNat, Nat.reduceAdd, Nat.reduceBEq, Bool.or_false, Bool.false_or, Bool.true_or, Nat.reduceSub, Nat.reduceMul, Int.reduceAdd, Int.reduceEq, Int.reduceLT, Int.reduceLE, Int.reduceNeg, Nat.reduceLT, Nat.reduceLeDiff, Nat.reduceEqDiff, e, hn]; first | done | rfl | fail) ?_; refine ⟨_, by first | fail | fail, ?_⟩; refine ⟨fun _ => rfl, fun _ => rfl, rfl, ?_⟩; try simp (maxSteps := 500000) (disch := omega) only [go_sem, Bool.not_not, List.mem_singleton, forall_eq, ↓reduceIte, if_pos, rowsAt_map, wrap64, wrapu8, List.getElem?_cons_zero, List.getElem?_cons_succ, Int.reduceToNat, Nat.reduceAdd, Nat.reduceBEq, Bool.or_false, Bool.false_or, Bool.true_or, Nat.reduceSub, Nat.reduceMul, Int.reduceAdd, Int.reduceEq, Int.reduceLT, Int.reduceLE, Int.reduceNeg, Nat.reduceLT, Nat.reduceLeDiff, Nat.reduceEqDiff, e, hn])
  | ((with_reducible refine AWP_c ?_); refine awp_cond_t (by simp (maxSteps := 500000) (disch := omega) only [go_sem, Bool.not_not, List.mem_singleton, forall_eq, ↓reduceIte, if_pos, rowsAt_map, wrap64, wrapu8, List.getElem?_cons_zero, List.getElem?_cons_succ, Int.reduceToNat, Nat.reduceAdd, Nat.reduceBEq, Bool.or_false, Bool.false_or, Bool.true_or, Nat.reduceSub, Nat.reduceMul, Int.reduceAdd, Int.reduceEq, Int.reduceLT, Int.reduceLE, Int.reduceNeg, Nat.reduceLT, Nat.reduceLeDiff, Nat.reduceEqDiff, e, hn]; first | done | fail) ?_)
  | ((with_reducible refine AWP_c ?_); refine awp_cond_f (by simp (maxSteps := 500000) (disch := omega) only [go_sem, Bool.not_not, List.mem_singleton, forall_eq, ↓reduceIte, if_pos, rowsAt_map, wrap64, wrapu8, List.getElem?_cons_zero, List.getElem?_cons_succ, Int.reduceToNat, Nat.reduceAdd, Nat.reduceBEq, Bool.or_false, Bool.false_or, Bool.true_or, Nat.reduceSub, Nat.reduceMul, Int.reduceAdd, Int.reduceEq, Int.reduceLT, Int.reduceLE, Int.reduceNeg, Nat.reduceLT, Nat.reduceLeDiff, Nat.reduceEqDiff, e, hn]; first | done | fail) ?_)
  | ((with_reducible refine AWP_c ?_); refine cond_nd (by simp (maxSteps := 500000) (disch := omega) only [go_sem, Bool.not_not, List.mem_singleton, forall_eq, ↓reduceIte, if_pos, rowsAt_map, wrap64, wrapu8, List.getElem?_cons_zero, List.getElem?_cons_succ, Int.reduceToNat, Nat.reduceAdd, Nat.reduceBEq, Bool.or_false, Bool.false_or, Bool.true_or, Nat.reduceSub, Nat.reduceMul, Int.reduceAdd, Int.reduceEq, Int.reduceLT, Int.reduceLE, Int.reduceNeg, Nat.reduceLT, Nat.reduceLeDiff, Nat.reduceEqDiff, e, hn]; first | done | rfl) ?_ ?_ <;> intro hb hb2 <;> first | contradiction | (exfalso; omega) | ((try simp (maxSteps := 500000) (disch := omega) only [go_sem, Bool.not_not, List.mem_singleton, forall_eq, ↓reduceIte, if_pos, rowsAt_map, wrap64, wrapu8, List.getElem?_cons_zero, List.getElem?_cons_succ, Int.reduceToNat, Nat.reduceAdd, Nat.reduceBEq, Bool.or_false, Bool.false_or, Bool.true_or, Nat.reduceSub, Nat.reduceMul, Int.reduceAdd, Int.reduceEq, Int.reduceLT, Int.reduceLE, Int.reduceNeg, Nat.reduceLT, Nat.reduceLeDiff, Nat.reduceEqDiff, e, hn, hb2]); try clear hb2))
  | ((with_reducible refine AWP_c ?_); refine cond_d (by simp (maxSteps := 500000) (disch := omega) only [go_sem, Bool.not_not, List.mem_singleton, forall_eq, ↓reduceIte, if_pos, rowsAt_map, wrap64, wrapu8, List.getElem?_cons_zero, List.getElem?_cons_succ, Int.reduceToNat, Nat.reduceAdd, Nat.reduceBEq, Bool.or_false, Bool.false_or, Bool.true_or, Nat.reduceSub, Nat.reduceMul, Int.reduceAdd, Int.reduceEq, Int.reduceLT, Int.reduceLE, Int.reduceNeg, Nat.reduceLT, Nat.reduceLeDiff, Nat.reduceEqDiff, e, hn]; first | done | rfl) ?_ ?_ <;> intro hb hb2 <;> first | contradiction | (exfalso; omega) | ((try simp (maxSteps := 500000) (disch := omega) only [go_sem, Bool.not_not, List.mem_singleton, forall_eq, ↓reduceIte, if_pos, rowsAt_map, wrap64, wrapu8, List.getElem?_cons_zero, List.getElem?_cons_succ, Int.reduceToNat, Nat.reduceAdd, Nat.reduceBEq, Bool.or_false, Bool.false_or, Bool.true_or, Nat.reduceSub, Nat.reduceMul, Int.reduceAdd, Int.reduceEq, Int.reduceLT, Int.reduceLE, Int.reduceNeg, Nat.reduceLT, Nat.reduceLeDiff, Nat.reduceEqDiff, e, hn, hb2]); try clear hb2))
  | ((with_reducible refine AWP_c ?_); refine cond_nb (by simp (maxSteps := 500000) (disch := omega) only [go_sem, Bool.not_not, List.mem_singleton, forall_eq, ↓reduceIte, if_pos, rowsAt_map, wrap64, wrapu8, List.getElem?_cons_zero, List.getElem?_cons_succ, Int.reduceToNat, Nat.reduceAdd, Nat.reduceBEq, Bool.or_false, Bool.false_or, Bool.true_or, Nat.reduceSub, Nat.reduceMul, Int.reduceAdd, Int.reduceEq, Int.reduceLT, Int.reduceLE, Int.reduceNeg, Nat.reduceLT, Nat.reduceLeDiff, Nat.reduceEqDiff, e, hn]; first | done | rfl) ?_ ?_ <;> intro hb <;> first | contradiction | (try simp (maxSteps := 500000) (disch := omega) only [go_sem, Bool.not_not, List.mem_singleton, forall_eq, ↓reduceIte, if_pos, rowsAt_map, wrap64, wrapu8, List.getElem?_cons_zero, List.getElem?_cons_succ, Int.reduceToNat, Nat.reduceAdd, Nat.reduceBEq, Bool.or_false, Bool.false_or, Bool.true_or, Nat.reduceSub, Nat.reduceMul, Int.reduceAdd, Int.reduceEq, Int.reduceLT, Int.reduceLE, Int.reduceNeg, Nat.reduceLT, Nat.reduceLeDiff, Nat.reduceEqDiff, e, hn, hb]))
  | ((with_reducible refine AWP_c ?_); refine awp_cond (by simp (maxSteps := 500000) (disch := omega) only [go_sem, Bool.not_not, List.mem_singleton, forall_eq, ↓reduceIte, if_pos, rowsAt_map, wrap64, wrapu8, List.getElem?_cons_zero, List.getElem?_cons_succ, Int.reduceToNat, Nat.reduceAdd, Nat.reduceBEq, Bool.or_false, Bool.false_or, Bool.true_or, Nat.reduceSub, Nat.reduceMul, Int.reduceAdd, Int.reduceEq, Int.reduceLT, Int.reduceLE, Int.reduceNeg, Nat.reduceLT, Nat.reduceLeDiff, Nat.reduceEqDiff, e, hn]; first | done | rfl) ?_ ?_ <;> intro hb <;> first | contradiction | (try simp (maxSteps := 500000) (disch := omega) only [go_sem, Bool.not_not, List.mem_singleton, forall_eq, ↓reduceIte, if_pos, rowsAt_map, wrap64, wrapu8, List.getElem?_cons_zero, List.getElem?_cons_succ, Int.reduceToNat, Nat.reduceAdd, Nat.reduceBEq, Bool.or_false, Bool.false_or, Bool.true_or, Nat.reduceSub, Nat.reduceMul, Int.reduceAdd, Int.reduceEq, Int.reduceLT, Int.reduceLE, Int.reduceNeg, Nat.reduceLT, Nat.reduceLeDiff, Nat.reduceEqDiff, e, hn, hb]))
  | ((with_reducible refine awp_skip ?_); simp (maxSteps := 500000) (disch := omega) only [go_sem, Bool.not_not, List.mem_singleton, forall_eq, ↓reduceIte, if_pos, rowsAt_map, wrap64, wrapu8, List.getElem?_cons_zero, List.getElem?_cons_succ, Int.reduceToNat, Nat.reduceAdd, Nat.reduceBEq, Bool.or_false, Bool.false_or, Bool.true_or, Nat.reduceSub, Nat.reduceMul, Int.reduceAdd, Int.reduceEq, Int.reduceLT, Int.reduceLE, Int.reduceNeg, Nat.reduceLT, Nat.reduceLeDiff, Nat.reduceEqDiff, e, hn])
  | with_reducible refine awp_block ?_
  | ((with_reducible refine awp_exit ?_); simp (maxSteps := 500000) (disch := omega) only [go_sem, Bool.not_not, List.mem_singleton, forall_eq, ↓reduceIte, if_pos, rowsAt_map, wrap64, wrapu8, List.getElem?_cons_zero, List.getElem?_cons_succ, Int.reduceToNat, Nat.reduceAdd, Nat.reduceBEq, Bool.or_false, Bool.false_or, Bool.true_or, Nat.reduceSub, Nat.reduceMul, Int.reduceAdd, Int.reduceEq, Int.reduceLT, Int.reduceLE, Int.reduceNeg, Nat.reduceLT, Nat.reduceLeDiff, Nat.reduceEqDiff, e, hn])
  | ((with_reducible refine CallK_id ?_); refine callF ⟨_, rfl⟩ rfl (by simp (maxSteps := 500000) (disch := omega) only [go_sem, Bool.not_not, List.mem_singleton, forall_eq, ↓reduceIte, if_pos, rowsAt_map, wrap64, wrapu8, List.getElem?_cons_zero, List.getElem?_cons_succ, Int.reduceToNat, Nat.reduceAdd, Nat.reduceBEq, Bool.or_false, Bool.false_or, Bool.true_or, Nat.reduceSub, Nat.reduceMul, Int.reduceAdd, Int.reduceEq, Int.reduceLT, Int.reduceLE, Int.reduceNeg, Nat.reduceLT, Nat.reduceLeDiff, Nat.reduceEqDiff, e, hn]; first | done | rfl | fail) ?_; refine ⟨_, by first | fail | fail, ?_⟩; refine ⟨fun _ => rfl, fun _ => rfl, rfl, ?_⟩; try simp (maxSteps := 500000) (disch := omega) only [go_sem, Bool.not_not, List.mem_singleton, forall_eq, ↓reduceIte, if_pos, rowsAt_map, wrap64, wrapu8, List.getElem?_cons_zero, List.getElem?_cons_succ, Int.reduceToNat, Nat.reduceAdd, Nat.reduceBEq, Bool.or_false, Bool.false_or, Bool.true_or, Nat.reduceSub, Nat.reduceMul, Int.reduceAdd, Int.reduceEq, Int.reduceLT, Int.reduceLE, Int.reduceNeg, Nat.reduceLT, Nat.reduceLeDiff, Nat.reduceEqDiff, e, hn])
  | fail
  refine awp_ret (fin_hand (by first | rfl | (simp only [go_sem, Bool.not_not, List.mem_singleton, forall_eq, ↓reduceIte, if_pos, rowsAt_map, wrap64, wrapu8, List.getElem?_cons_zero, List.getElem?_cons_succ, Int.reduceToNat, Nat.reduceAdd, Nat.reduceBEq, Bool.or_false, Bool.false_or, Bool.true_or, Nat.reduceSub, Nat.reduceMul, Int.reduceAdd, Int.reduceEq, Int.reduceLT, Int.reduceLE, Int.reduceNeg, Nat.reduceLT, Nat.reduceLeDiff, Nat.reduceEqDiff]; rfl)) ?_)
  refine zT ?_
  exact zwl
theorem pop_ok (rs : List (List D)) (n : Nat) (d0 d1 d2 d3 : D) (wc : C) (ty : Option TypeId) (hn : rs.length = n + 1) (hl : n < 1000000) (hr : rowsAt rs n = [d0, d1, d2, d3]) (hw : okC 2 wc = true) :
    AFn env 38 [P0] [some (.box [.own 1 0 (n + 1) (n + 1), wc]), some (.rows 4 rs ty)] (.agg [.d d0, .d d1, .d d2, .d d3]) [some (.box [.own 1 0 n (n + 1), wc]), some (.rows 4 rs ty)] := by
  have e : (((n + 1 : Nat) : Int) - 1) = (n : Int) := by omega
  have hr1 : (rowsAt rs n).length = 4 := by rw [hr]; rfl
  refine afn_body Tryd.func38 rfl (by decide) ?_
  simp only [Tryd.ntmps38, Tryd.results38, List.length_cons, List.length_nil, List.cons_append, List.nil_append, Nat.reduceAdd, Nat.reduceSub, List.replicate]
  repeat' first
  | with_reducible refine awp_seq ?_
  | ((with_reducible refine awp_region ?_); simp (maxSteps := 500000) (disch := omega) only [go_sem, Bool.not_not, List.mem_singleton, forall_eq, ↓reduceIte, if_pos, rowsAt_map, wrap64, wrapu8, List.getElem?_cons_zero, List.getElem?_cons_succ, Int.reduceToNat, Nat.reduceAdd, Nat.reduceBEq, Bool.or_false, Bool.false_or, Bool.true_or, Nat.reduceSub, Nat.reduceMul, Int.reduceAdd, Int.reduceEq, Int.reduceLT, Int.reduceLE, Int.reduceNeg, Nat.reduceLT, Nat.reduceLeDiff, Nat.reduceEqDiff, e, hr, hn, hw])
  | ((with_reducible refine Gd_nd ?_ ?_) <;> intro hb hb2 <;> first | contradiction | (exfalso; omega) | (simp (maxSteps := 500000) (disch := omega) only [go_sem, Bool.not_not, List.mem_singleton, forall_eq, ↓reduceIte, if_pos, rowsAt_map, wrap64, wrapu8, List.getElem?_cons_zero, List.getElem?_cons_succ, Int.reduceToNat, Nat.reduceAdd, Nat.reduceBEq, Bool.or_false, Bool.false_or, Bool.true_or, Nat.reduceSub, Nat.reduceMul, Int.reduceAdd, Int.reduceEq, Int.reduceLT, Int.reduceLE, Int.reduceNeg, Nat.reduceLT, Nat.reduceLeDiff, Nat.reduceEqDiff, e, hr, hn, hw, hb2]; try clear hb2))
  | ((with_reducible refine Gd_nb ?_ ?_) <;> intro hb <;> first | contradiction | simp (maxSteps := 500000) (disch := omega) only [go_sem, Bool.not_not, List.mem_singleton, forall_eq, ↓reduceIte, if_pos, rowsAt_map, wrap64, wrapu8, List.getElem?_cons_zero, List.getElem?_cons_succ, Int.reduceToNat, Nat.reduceAdd, Nat.reduceBEq, Bool.or_false, Bool.false_or, Bool.true_or, Nat.reduceSub, Nat.reduceMul, Int.reduceAdd, Int.reduceEq, Int.reduceLT, Int.reduceLE, Int.reduceNeg, Nat.reduceLT, Nat.reduceLeDiff, Nat.reduceEqDiff, e, hr, hn, hw, hb])
  | ((with_reducible refine Gd_d ?_ ?_) <;> intro hb hb2 <;> first | contradiction | (exfalso; omega) | (simp (maxSteps := 500000) (disch := omega) only [go_sem, Bool.not_not, List.mem_singleton, forall_eq, ↓reduceIte, if_pos, rowsAt_map, wrap64, wrapu8, List.getElem?_cons_zero, List.getElem?_cons_succ, Int.reduceToNat, Nat.reduceAdd, Nat.reduceBEq, Bool.or_false, Bool.false_or, Bool.true_or, Nat.reduceSub, Nat.reduceMul, Int.reduceAdd, Int.reduceEq, Int.reduceLT, Int.reduceLE, Int.reduceNeg, Nat.reduceLT, Nat.reduceLeDiff, Nat.reduceEqDiff, e, hr, hn, hw, hb2]; try clear hb2))
  | ((with_reducible refine Gd_b ?_ ?_) <;> intro hb <;> first | contradiction | simp (maxSteps := 500000) (disch := omega) only [go_sem, Bool.not_not, List.mem_singleton, forall_eq, ↓reduceIte, if_pos, rowsAt_map, wrap64, wrapu8, List.getElem?_cons_zero, List.getElem?_cons_succ, Int.reduceToNat, Nat.reduceAdd, Nat.reduceBEq, Bool.or_false, Bool.false_or, Bool.true_or, Nat.reduceSub, Nat.reduceMul, Int.reduceAdd, Int.reduceEq, Int.reduceLT, Int.reduceLE, Int.reduceNeg, Nat.reduceLT, Nat.reduceLeDiff, Nat.reduceEqDiff, e, hr, hn, hw, hb])
  | ((with_reducible refine Res_id ?_); simp (maxSteps := 500000) (disch := omega) only [go_sem, Bool.not_not, List.mem_singleton, forall_eq, ↓reduceIte, if_pos, rowsAt_map, wrap64, wrapu8, List.getElem?_cons_zero, List.getElem?_cons_succ, Int.reduceToNat, Nat.reduceAdd, Nat.reduceBEq, Bool.or_false, Bool.false_or, Bool.true_or, Nat.reduceSub, Nat.reduceMul, Int.reduceAdd, Int.reduceEq, Int.reduceLT, Int.reduceLE, Int.reduceNeg, Nat.reduceLT, Nat.reduceLeDiff, Nat.reduceEqDiff, e, hr, hn, hw])
  | ((with_reducible refine awp_drawnC ?_ ?_); rfl; simp (maxSteps := 500000) (disch := omega) only [go_sem, Bool.not_not, List.mem_singleton, forall_eq, ↓reduceIte, if_pos, rowsAt_map, wrap64, wrapu8, List.getElem?_cons_zero, List.getElem?_cons_succ, Int.reduceToNat, Nat.reduceAdd, Nat.reduceBEq, Bool.or_false, Bool.false_or, Bool.true_or, Nat.reduceSub, Nat.reduceMul, Int.reduceAdd, Int.reduceEq, Int.reduceLT, Int.reduceLE, Int.reduceNeg, Nat.reduceLT, Nat.reduceLeDiff, Nat.reduceEqDiff, e, hr, hn, hw])
  | ((with_reducible refine awp_drawnA ?_ ?_); rfl; simp (maxSteps := 500000) (disch := omega) only [go_sem, Bool.not_not, List.mem_singleton, forall_eq, ↓reduceIte, if_pos, rowsAt_map, wrap64, wrapu8, List.getElem?_cons_zero, List.getElem?_cons_succ, Int.reduceToNat, Nat.reduceAdd, Nat.reduceBEq, Bool.or_false, Bool.false_or, Bool.true_or, Nat.reduceSub, Nat.reduceMul, Int.reduceAdd, Int.reduceEq, Int.reduceLT, Int.reduceLE, Int.reduceNeg, Nat.reduceLT, Nat.reduceLeDiff, Nat.reduceEqDiff, e, hr, hn, hw])
  | ((with_reducible refine CGd_nd ?_ ?_) <;> intro hb hb2 <;> first | contradiction | (exfalso; omega) | (simp (maxSteps := 500000) (disch := omega) only [go_sem, Bool.not_not, List.mem_singleton, forall_eq, ↓reduceIte, if_pos, rowsAt_map, wrap64, wrapu8, List.getElem?_cons_zero, List.getElem?_cons_succ, Int.reduceToNat, Nat.reduceAdd, Nat.reduceBEq, Bool.or_false, Bool.false_or, Bool.true_or, Nat.reduceSub, Nat.reduceMul, Int.reduceAdd, Int.reduceEq, Int.reduceLT, Int.reduceLE, Int.reduceNeg, Nat.reduceLT, Nat.reduceLeDiff, Nat.reduceEqDiff, e, hr, hn, hw, hb2]; try clear hb2))
  | ((with_reducible refine CGd_nb ?_ ?_) <;> intro hb <;> first | contradiction | simp (maxSteps := 500000) (disch := omega) only [go_sem, Bool.not_not, List.mem_singleton, forall_eq, ↓reduceIte, if_pos, rowsAt_map, wrap64, wrapu8, List.getElem?_cons_zero, List.getElem?_cons_succ, Int.reduceToNat, Nat.reduceAdd, Nat.reduceBEq, Bool.or_false, Bool.false_or, Bool.true_or, Nat.reduceSub, Nat.reduceMul, Int.reduceAdd, Int.reduceEq, Int.reduceLT, Int.reduceLE, Int.reduceNeg, Nat.reduceLT, Nat.reduceLeDiff, Nat.reduceEqDiff, e, hr, hn, hw, hb])
  | ((with_reducible refine CGd_d ?_ ?_) <;> intro hb hb2 <;> first | contradiction | (exfalso; omega) | (simp (maxSteps := 500000) (disch := omega) only [go_sem, Bool.not_not, List.mem_singleton, forall_eq, ↓reduceIte, if_pos, rowsAt_map, wrap64, wrapu8, List.getElem?_cons_zero, List.getElem?_cons_succ, Int.reduceToNat, Nat.reduceAdd, Nat.reduceBEq, Bool.or_false, Bool.false_or, Bool.true_or, Nat.reduceSub, Nat.reduceMul, Int.reduceAdd, Int.reduceEq, Int.reduceLT, Int.reduceLE, Int.reduceNeg, Nat.reduceLT, Nat.reduceLeDiff, Nat.reduceEqDiff, e, hr, hn, hw, hb2]; try clear hb2))
  | ((with_reducible refine CGd_b ?_ ?_) <;> intro hb <;> first | contradiction | simp (maxSteps := 500000) (disch := omega) only [go_sem, Bool.not_not, List.mem_singleton, forall_eq, ↓reduceIte, if_pos, rowsAt_map, wrap64, wrapu8, List.getElem?_cons_zero, List.getElem?_cons_succ, Int.reduceToNat, Nat.reduceAdd, Nat.reduceBEq, Bool.or_false, Bool.false_or, Bool.true_or, Nat.reduceSub, Nat.reduceMul, Int.reduceAdd, Int.reduceEq, Int.reduceLT, Int.reduceLE, Int.reduceNeg, Nat.reduceLT, Nat.reduceLeDiff, Nat.reduceEqDiff, e, hr, hn, hw, hb])
  | ((with_reducible refine CRes_id ?_); simp (maxSteps := 500000) (disch := omega) only [go_sem, Bool.not_not, List.mem_singleton, forall_eq, ↓reduceIte, if_pos, rowsAt_map, wrap64, wrapu8, List.getElem?_cons_zero, List.getElem?_cons_succ, Int.reduceToNat, Nat.reduceAdd, Nat.reduceBEq, Bool.or_false, Bool.false_or, Bool.true_or, Nat.reduceSub, Nat.reduceMul, Int.reduceAdd, Int.reduceEq, Int.reduceLT, Int.reduceLE, Int.reduceNeg, Nat.reduceLT, Nat.reduceLeDiff, Nat.reduceEqDiff, e, hr, hn, hw])
  | ((with_reducible refine DStep_id ?_); refine dcallP ⟨_, rfl⟩ rfl (by simp (maxSteps := 500000) (disch := omega) only [go_sem, Bool.not_not, List.mem_singleton, forall_eq, ↓reduceIte, if_pos, rowsAt_map, wrap64, wrapu8, List.getElem?_cons_zero, List.getElem?_cons_succ, Int.reduceToNat, Nat.reduceAdd, Nat.reduceBEq, Bool.or_false, Bool.false_or, Bool.true_or, Nat.reduceSub, Nat.reduceMul, Int.reduceAdd, Int.reduceEq, Int.reduceLT, Int.reduceLE, Int.reduceNeg, Nat.reduceLT, Nat.reduceLeDiff, Nat.reduceEqDiff, e, hr, hn, hw]; first | done | rfl | fail) ?_; refine ⟨_, by first | fail | fail, ?_⟩; refine ⟨fun _ => rfl, fun _ => rfl, rfl, (fun h => by first | cases h | fail), ?_⟩; try simp (maxSteps := 500000) (disch := omega) only [go_sem, Bool.not_not, List.mem_singleton, forall_eq, ↓reduceIte, if_pos, rowsAt_map, wrap64, wrapu8, List.getElem?_cons_zero, List.getElem?_cons_succ, Int.reduceToNat, Nat.reduceAdd, Nat.reduceBEq, Bool.or_false, Bool.false_or, Bool.true_or, Nat.reduceSub, Nat.reduceMul, Int.reduceAdd, Int.reduceEq, Int.reduceLT, Int.reduceLE, Int.reduceNeg, Nat.reduceLT, Nat.reduceLeDiff, Nat.reduceEqDiff, e, hr, hn, hw])
  | ((with_reducible refine DStep_id ?_); refine dcallPw ⟨_, rfl⟩ rfl (by simp (maxSteps := 500000) (disch := omega) only [go_sem, Bool.not_not, List.mem_singleton, forall_eq, ↓reduceIte, if_pos, rowsAt_map, wrap64, wrapu8, List.getElem?_cons_zero, List.getElem?_cons_succ, Int.reduceToNat, Nat.reduceAdd, Nat.reduceBEq, Bool.or_false, Bool.false_or, Bool.true_or, Nat.reduceSub, Nat.reduceMul, Int.reduceAdd, Int.reduceEq, Int.reduceLT, Int.reduceLE, Int.reduceNeg, Nat.reduceLT, Nat.reduceLeDiff, Nat.reduceEqDiff, e, hr, hn, hw]; first | done | rfl | fail) ?_; refine ⟨_, by first | fail | fail, ?_⟩; refine ⟨fun _ => rfl, fun _ => rfl, rfl, ?_⟩; try simp (maxSteps := 500000) (disch := omega) only [go_sem, Bool.not_not, List.mem_singleton, forall_eq, ↓reduceIte, if_pos, rowsAt_map, wrap64, wrapu8, List.getElem?_cons_zero, List.getElem?_cons_succ, Int.reduceToNat, Nat.reduceAdd, Nat.reduceBEq, Bool.or_false, Bool.false_or, Bool.true_or, Nat.reduceSub, Nat.reduceMul, Int.reduceAdd, Int.reduceEq, Int.reduceLT, Int.reduceLE, Int.reduceNeg, Nat.reduceLT, Nat.reduceLeDiff, Nat.reduceEqDiff, e, hr, hn, hw])
  | ((with_reducible refine AWP_c ?_); refine awp_cond_t (by simp (maxSteps := 500000) (disch := omega) only [go_sem, Bool.not_not, List.mem_singleton, forall_eq, ↓reduceIte, if_pos, rowsAt_map, wrap64, wrapu8, List.getElem?_cons_zero, List.getElem?_cons_succ, Int.reduceToNat, Nat.reduceAdd, Nat.reduceBEq, Bool.or_false, Bool.false_or, Bool.true_or, Nat.reduceSub, Nat.reduceMul, Int.reduceAdd, Int.reduceEq, Int.reduceLT, Int.reduceLE, Int.reduceNeg, Nat.reduceLT, Nat.reduceLeDiff, Nat.reduceEqDiff, e, hr, hn, hw]; first | done | fail) ?_)
  | ((with_reducible refine AWP_c ?_); refine awp_cond_f (by simp (maxSteps := 500000) (disch := omega) only [go_sem, Bool.not_not, List.mem_singleton, forall_eq, ↓reduceIte, if_pos, rowsAt_map, wrap64, wrapu8, List.getElem?_cons_zero, List.getElem?_cons_succ, Int.reduceToNat, Nat.reduceAdd, Nat.reduceBEq, Bool.or_false, Bool.false_or, Bool.true_or, Nat.reduceSub, Nat.reduceMul, Int.reduceAdd, Int.reduceEq, Int.reduceLT, Int.reduceLE, Int.reduceNeg, Nat.reduceLT, Nat.reduceLeDiff, Nat.reduceEqDiff, e, hr, hn, hw]; first | done | fail) ?_)
  | ((with_reducible refine AWP_c ?_); refine cond_nd (by simp (maxSteps := 500000) (disch := omega) only [go_sem, Bool.not_not, List.mem_singleton, forall_eq, ↓reduceIte, if_pos, rowsAt_map, wrap64, wrapu8, List.getElem?_cons_zero, List.getElem?_cons_succ, Int.reduceToNat, Nat.reduceAdd, Nat.reduceBEq, Bool.or_false, Bool.false_or, Bool.true_or, Nat.reduceSub, Nat.reduceMul, Int.reduceAdd, Int.reduceEq, Int.reduceLT, Int.reduceLE, Int.reduceNeg, Nat.reduceLT, Nat.reduceLeDiff, Nat.reduceEqDiff, e, hr, hn, hw]; first | done | rfl) ?_ ?_ <;> intro hb hb2 <;> first | contradiction | (exfalso; omega) | ((try simp (maxSteps := 500000) (disch := omega) only [go_sem, Bool.not_not, List.mem_singleton, forall_eq, ↓reduceIte, if_pos, rowsAt_map, wrap64, wrapu8, List.getElem?_cons_zero, List.getElem?_cons_succ, Int.reduceToNat, Nat.reduceAdd, Nat.reduceBEq, Bool.or_false, Bool.false_or, Bool.true_or, Nat.reduceSub, Nat.reduceMul, Int.reduceAdd, Int.reduceEq, Int.reduceLT, Int.reduceLE, Int.reduceNeg, Nat.reduceLT, Nat.reduceLeDiff, Nat.reduceEqDiff, e, hr, hn, hw, hb2]); try clear hb2))
  | ((with_reducible refine AWP_c ?_); refine cond_d (by simp (maxSteps := 500000) (disch := omega) only [go_sem, Bool.not_not, List.mem_singleton, forall_eq, ↓reduceIte, if_pos, rowsAt_map, wrap64, wrapu8, List.getElem?_cons_zero, List.getElem?_cons_succ, Int.reduceToNat, Nat.reduceAdd, Nat.reduceBEq, Bool.or_false, Bool.false_or, Bool.true_or, Nat.reduceSub, Nat.reduceMul, Int.reduceAdd, Int.reduceEq, Int.reduceLT, Int.reduceLE, Int.reduceNeg, Nat.reduceLT, Nat.reduceLeDiff, Nat.reduceEqDiff, e, hr, hn, hw]; first | done | rfl) ?_ ?_ <;> intro hb hb2 <;> first | contradiction | (exfalso; omega) | ((try simp (maxSteps := 500000) (disch := omega) only [go_sem, Bool.not_not, List.mem_singleton, forall_eq, ↓reduceIte, if_pos, rowsAt_map, wrap64, wrapu8, List.getElem?_cons_zero, List.getElem?_cons_succ, Int.reduceToNat, Nat.reduceAdd, Nat.reduceBEq, Bool.or_false, Bool.false_or, Bool.true_or, Nat.reduceSub, Nat.reduceMul, Int.reduceAdd, Int.reduceEq, Int.reduceLT, Int.reduceLE, Int.reduceNeg, Nat.reduceLT, Nat.reduceLeDiff, Nat.reduceEqDiff, e, hr, hn, hw, hb2]); try clear hb2))
  | ((with_reducible refine AWP_c ?_); refine cond_nb (by simp (maxSteps := 500000) (disch := omega) only [go_sem, Bool.not_not, List.mem_singleton, forall_eq, ↓reduceIte, if_pos, rowsAt_map, wrap64, wrapu8, List.getElem?_cons_zero, List.getElem?_cons_succ, Int.reduceToNat, Nat.reduceAdd, Nat.reduceBEq, Bool.or_false, Bool.false_or, Bool.true_or, Nat.reduceSub, Nat.reduceMul, Int.reduceAdd, Int.reduceEq, Int.reduceLT, Int.reduceLE, Int.reduceNeg, Nat.reduceLT, Nat.reduceLeDiff, Nat.reduceEqDiff, e, hr, hn, hw]; first | done | rfl) ?_ ?_ <;> intro hb <;> first | contradiction | (try simp (maxSteps := 500000) (disch := omega) only [go_sem, Bool.not_not, List.mem_singleton, forall_eq, ↓reduceIte, if_pos, rowsAt_map, wrap64, wrapu8, List.getElem?_cons_zero, List.getElem?_cons_succ, Int.reduceToNat, Nat.reduceAdd, Nat.reduceBEq, Bool.or_false, Bool.false_or, Bool.true_or, Nat.reduceSub, Nat.reduceMul, Int.reduceAdd, Int.reduceEq, Int.reduceLT, Int.reduceLE, Int.reduceNeg, Nat.reduceLT, Nat.reduceLeDiff, Nat.reduceEqDiff, e, hr, hn, hw, hb]))
  | ((with_reducible refine AWP_c ?_); refine awp_cond (by simp (maxSteps := 500000) (disch := omega) only [go_sem, Bool.not_not, List.mem_singleton, forall_eq, ↓reduceIte, if_pos, rowsAt_map, wrap64, wrapu8, List.getElem?_cons_zero, List.getElem?_cons_succ, Int.reduceToNat, Nat.reduceAdd, Nat.reduceBEq, Bool.or_false, Bool.false_or, Bool.true_or, Nat.reduceSub, Nat.reduceMul, Int.reduceAdd, Int.reduceEq, Int.reduceLT, Int.reduceLE, Int.reduceNeg, Nat.reduceLT, Nat.reduceLeDiff, Nat.reduceEqDiff, e, hr, hn, hw]; first | done | rfl) ?_ ?_ <;> intro hb <;> first | contradiction | (try simp (maxSteps := 500000) (disch := omega) only [go_sem, Bool.not_not, List.mem_singleton, forall_eq, ↓reduceIte, if_pos, rowsAt_map, wrap64, wrapu8, List.getElem?_cons_zero, List.getElem?_cons_succ, Int.reduceToNat, Nat.reduceAdd, Nat.reduceBEq, Bool.or_false, Bool.false_or, Bool.true_or, Nat.reduceSub, Nat.reduceMul, Int.reduceAdd, Int.reduceEq, Int.reduceLT, Int.reduceLE, Int.reduceNeg, Nat.reduceLT, Nat.reduceLeDiff, Nat.reduceEqDiff, e, hr, hn, hw, hb]))
  | ((with_reducible refine awp_ret ?_); refine fin_r ?_)
  | ((with_reducible refine awp_ret ?_); refine fin_q ?_ ?_)
  | with_reducible refine fin_qn ?_ ?_
  | ((with_reducible refine awp_skip ?_); simp (maxSteps := 500000) (disch := omega) only [go_sem, Bool.not_not, List.mem_singleton, forall_eq, ↓reduceIte, if_pos, rowsAt_map, wrap64, wrapu8, List.getElem?_cons_zero, List.getElem?_cons_succ, Int.reduceToNat, Nat.reduceAdd, Nat.reduceBEq, Bool.or_false, Bool.false_or, Bool.true_or, Nat.reduceSub, Nat.reduceMul, Int.reduceAdd, Int.reduceEq, Int.reduceLT, Int.reduceLE, Int.reduceNeg, Nat.reduceLT, Nat.reduceLeDiff, Nat.reduceEqDiff, e, hr, hn, hw])
  | with_reducible refine awp_block ?_
  | ((with_reducible refine awp_exit ?_); simp (maxSteps := 500000) (disch := omega) only [go_sem, Bool.not_not, List.mem_singleton, forall_eq, ↓reduceIte, if_pos, rowsAt_map, wrap64, wrapu8, List.getElem?_cons_zero, List.getElem?_cons_succ, Int.reduceToNat, Nat.reduceAdd, Nat.reduceBEq, Bool.or_false, Bool.false_or, Bool.true_or, Nat.reduceSub, Nat.reduceMul, Int.reduceAdd, Int.reduceEq, Int.reduceLT, Int.reduceLE, Int.reduceNeg, Nat.reduceLT, Nat.reduceLeDiff, Nat.reduceEqDiff, e, hr, hn, hw])
  | ((with_reducible refine CallK_id ?_); refine callF ⟨_, rfl⟩ rfl (by simp (maxSteps := 500000) (disch := omega) only [go_sem, Bool.not_not, List.mem_singleton, forall_eq, ↓reduceIte, if_pos, rowsAt_map, wrap64, wrapu8, List.getElem?_cons_zero, List.getElem?_cons_succ, Int.reduceToNat, Nat.reduceAdd, Nat.reduceBEq, Bool.or_false, Bool.false_or, Bool.true_or, Nat.reduceSub, Nat.reduceMul, Int.reduceAdd, Int.reduceEq, Int.reduceLT, Int.reduceLE, Int.reduceNeg, Nat.reduceLT, Nat.reduceLeDiff, Nat.reduceEqDiff, e, hr, hn, hw]; first | done | rfl | fail) ?_; refine ⟨_, by first | fail | fail, ?_⟩; refine ⟨fun _ => rfl, fun _ => rfl, rfl, ?_⟩; try simp (maxSteps := 500000) (disch := omega) only [go_sem, Bool.not_not, List.mem_singleton, forall_eq, ↓reduceIte, if_pos, rowsAt_map, wrap64, wrapu8, List.getElem?_cons_zero, List.getElem?_cons_succ, Int.reduceToNat, Nat.reduceAdd, Nat.reduceBEq, Bool.or_false, Bool.false_or, Bool.true_or, Nat.reduceSub, Nat.reduceMul, Int.reduceAdd, Int.reduceEq, Int.reduceLT, Int.reduceLE, Int.reduceNeg, Nat.reduceLT, Nat.reduceLeDiff, Nat.reduceEqDiff, e, hr, hn, hw])
  | fail
  all_goals (first | rfl | (simp [go_sem, e, hw, hn]; done) | trace_state)
def Scal (r : A) : Prop := ∀ (x y : Ctx) u, VA x r u → VA y r u
theorem scal_sc (v : Value) : Scal (.c (.d (.sc v))) := fun x y u h => by
  cases h with | c _ _ h => cases h with | d _ _ h => cases h with | sc _ h1 => exact .c _ _ (.d _ _ (.sc _ h1))
theorem scal_t : Scal (.tup []) := fun x y u h => by
  cases h with | tup _ vs f h1 h2 h3 => exact .tup _ vs f h1 h2 (fun i a h => by simp at h)
theorem wk_par {H : Heap} {j : Nat} {r : A} (hr : Scal r) {n N : Nat} {rs : List (List D)} {rws0 : List RW} {os0 os : List OE} {wh : Option El} {ty1 ty2 : Option TypeId}
    (h0 : H[0]? = some (some (.box [.own 1 0 n N, wC wh] ty1))) (h1 : H[1]? = some (some (.rows 4 rs ty2))) (hn : N = rs.length) (h2 : H[2]? = some (some (.raw (kidsR rws0 os0))))
    (hq : ∀ (w : World) (F : Nat → Prop) (cell : Nat → Nat → Value), (∀ (i c : Nat) r d, rs[i]? = some r → r[c]? = some d → DR w F d (cell i c) ∧ one (cell i c) = true) → ∃ rws : List RW, rws.length = n ∧ (∀ (i c : Nat) r u, rws[i]? = some r → r.cells[c]? = some u → u = cell i c ∧ ∃ r' d, rs[i]? = some r' ∧ r'[c]? = some d) ∧ (∀ O', Kd w F O' rws0 os0 → Kd w F O' rws os)) :
    Wk (j + 1) [r] H [r] (some (.raw (parR os wh)) :: List.replicate j none) := by
  intro B a w hm hs
  obtain ⟨hd, x, O, rfl, hR, hT⟩ := hs
  obtain ⟨y, O', e1, R1⟩ := par_close hR hm h0 h1 hn h2 (hq x.w x.F)
  refine ⟨hd, y, O', e1, R1, hT.1, fun i b hb => ?_⟩
  cases i with
  | zero =>
    cases hb
    obtain ⟨u, hu, hv⟩ := hT.2 0 _ rfl
    exact ⟨u, hu, hr x y u hv⟩
  | succ i => simp at hb
theorem rws_cell {w : World} {F : Nat → Prop} {rws : List RW} {cell : Nat → Nat → Value} (hc : ∀ (i c : Nat) r d, (rws.map RW.row)[i]? = some r → r[c]? = some d → DR w F d (cell i c) ∧ one (cell i c) = true) :
    ∀ (i c : Nat) r u, rws[i]? = some r → r.cells[c]? = some u → u = cell i c ∧ ∃ r' d, (rws.map RW.row)[i]? = some r' ∧ r'[c]? = some d := by
  intro i c r u hr hu
  have hr' : (rws.map RW.row)[i]? = some r.row := by rw [List.getElem?_map, hr]; rfl
  match c, hu with
  | 0, hu => cases hu; exact ⟨((hc i 0 _ _ hr' rfl).1.sc_eq).symm, _, _, hr', rfl⟩
  | 1, hu => cases hu; exact ⟨((hc i 1 _ _ hr' rfl).1.sc_eq).symm, _, _, hr', rfl⟩
  | 2, hu => cases hu; exact ⟨((hc i 2 _ _ hr' rfl).1.sc_eq).symm, _, _, hr', rfl⟩
  | 3, hu => cases hu; exact ⟨((hc i 3 _ _ hr' rfl).1.sc_eq).symm, _, _, hr', rfl⟩
theorem wk_par0 {rest : Heap} {r : A} (hr : Scal r) {n : Nat} {rws : List RW} {os : List OE} {wh : Option El} {ty1 ty2 : Option TypeId} (hn : n = rws.length) :
    Wk 1 [r] (some (.box [.own 1 0 n n, wC wh] ty1) :: some (.rows 4 (rws.map RW.row) ty2) :: some (.raw (kidsR rws os)) :: rest) [r] [some (.raw (parR os wh))] :=
  wk_par (j := 0) hr rfl rfl (by simpa using hn) rfl (fun w F cell hc => ⟨rws, hn.symm, rws_cell hc, fun _ h => h⟩)
theorem wk_parP {rest : Heap} {r : A} (hr : Scal r) {n : Nat} {rws : List RW} {os : List OE} {wh : Option El} {ty1 ty2 : Option TypeId} {nm : Str} {ats : List At} (hn : n = rws.length + 1) :
    Wk 1 [r] (some (.box [.own 1 0 n n, wC wh] ty1) :: some (.rows 4 (rws.map RW.row ++ [[dS nm, .fz (ats.map At.row), .sc (.slice none 0 0), dS []]]) ty2) :: some (.raw (kidsR rws os)) :: rest) [r] [some (.raw (parR (os ++ [⟨nm, [], ats, []⟩]) wh))] := by
  refine wk_par (j := 0) hr rfl rfl (by simpa using hn) rfl (fun w F cell hc => ?_)
  have hlast : (rws.map RW.row ++ [[dS nm, .fz (ats.map At.row), .sc (.slice none 0 0), dS []]])[rws.length]? = some [dS nm, .fz (ats.map At.row), .sc (.slice none 0 0), dS []] := by
    rw [List.getElem?_append_right (by simp)]; simp
  have hlow := rws_cell (rws := rws) (cell := cell) (fun i c r d h1 h2 => hc i c r d (by rw [List.getElem?_append_left (List.getElem?_eq_some_iff.1 h1).1]; exact h1) h2)
  have h1 := hc rws.length 1 _ _ hlast rfl
  refine ⟨rws ++ [⟨nm, [], cell rws.length 1, none, 0, 0, []⟩], by simp [hn], fun i c r u hr hu => ?_, fun O' h => ?_⟩
  · by_cases hi : i < rws.length
    · rw [List.getElem?_append_left hi] at hr
      obtain ⟨h2, r', d, h3, h4⟩ := hlow i c r u hr hu
      exact ⟨h2, r', d, by rw [List.getElem?_append_left (by simpa using hi)]; exact h3, h4⟩
    · have hi2 : i = rws.length := by
        have := (List.getElem?_eq_some_iff.1 hr).1
        simp at this; omega
      subst hi2
      rw [List.getElem?_append_right (Nat.le_refl _)] at hr
      simp at hr
      subst hr
      match c, hu with
      | 0, hu => cases hu; exact ⟨((hc _ 0 _ _ hlast rfl).1.sc_eq).symm, _, _, hlast, rfl⟩
      | 1, hu => cases hu; exact ⟨rfl, _, _, hlast, rfl⟩
      | 2, hu => cases hu; exact ⟨((hc _ 2 _ _ hlast rfl).1.sc_eq).symm, _, _, hlast, rfl⟩
      | 3, hu => cases hu; exact ⟨((hc _ 3 _ _ hlast rfl).1.sc_eq).symm, _, _, hlast, rfl⟩
  · have hnew : w.ownsRow 0 25 4 (RW.kv ⟨nm, [], cell rws.length 1, none, 0, 0, []⟩) 0 [] := ⟨rfl, .inl ⟨rfl, rfl⟩⟩
    have get : ∀ (i : Nat) r, (rws ++ [(⟨nm, [], cell rws.length 1, none, 0, 0, []⟩ : RW)])[i]? = some r → rws[i]? = some r ∨ i = rws.length ∧ r = ⟨nm, [], cell rws.length 1, none, 0, 0, []⟩ := fun i r hr => by
      by_cases hi : i < rws.length
      · rw [List.getElem?_append_left hi] at hr; exact .inl hr
      · have hi2 : i = rws.length := by
          have := (List.getElem?_eq_some_iff.1 hr).1
          simp at this; omega
        subst hi2
        rw [List.getElem?_append_right (Nat.le_refl _)] at hr
        simp at hr
        exact .inr ⟨rfl, hr.symm⟩
    refine ⟨by simp [h.len], fun i r hr => ?_, fun i r hr k hk => ?_, fun i j r s k hr hs hk hk2 => ?_, fun i r o hr ho => ?_⟩
    · rcases get i r hr with h2 | ⟨_, rfl⟩
      · exact h.kid i r h2
      · exact hnew
    · rcases get i r hr with h2 | ⟨_, rfl⟩
      · exact h.own i r h2 k hk
      · cases hk
    · rcases get i r hr with h2 | ⟨_, rfl⟩
      · rcases get j s hs with h3 | ⟨_, rfl⟩
        · exact h.dis i j r s k h2 h3 hk hk2
        · cases hk2
      · cases hk
    · rcases get i r hr with h2 | ⟨rfl, rfl⟩
      · have hi : i < os.length := by rw [← h.len]; exact (List.getElem?_eq_some_iff.1 h2).1
        rw [List.getElem?_append_left hi] at ho
        exact h.ar i r o h2 ho
      · rw [h.len, List.getElem?_append_right (Nat.le_refl _)] at ho
        simp at ho
        subst ho
        exact ⟨rfl, rfl, h1.2, h1.1, rfl, fun i e c d h => by simp at h⟩
end Go.Eng
open Go Go.Proofs Go.RowKit
namespace Go.Eng
set_option linter.unusedSimpArgs false
set_option linter.unusedVariables false
set_option maxRecDepth 100000
set_option maxHeartbeats 8000000
theorem adr_add (g o k : Nat) : (⟨g, o, none⟩ : Addr).add k = ⟨g, o + k, none⟩ := by unfold Addr.add; split <;> simp_all
theorem El.row_len (e : El) : e.row.length = 4 := by rw [El.row_eq]; rfl
theorem kid_fz {w : World} {F F' : Nat → Prop} {v : Value} {n : Nat} {ks : List Value} {kids : List El} (ho : w.ownsRow 0 25 4 v n ks) (hk : KidsAre w F ks kids) (hF : ∀ k, F k → F' k) (hb : ∀ k, v.ownBlock = some k → F' k) : DR w F' (.fz (kids.map El.row)) v := by
  have hn : n = kids.length := by have h1 := ho.1; have h2 := hk.1; omega
  subst hn
  cases kids with
  | nil =>
    obtain ⟨a, c, rfl⟩ := own_slice ho
    exact .nil a c
  | cons e0 l =>
    have hown := ho.2
    rcases hown with ⟨rfl, h⟩ | ⟨g, cap, cur, rfl, _, hg, hcap, hrest⟩
    · simp at h
    · have := DR.fz (w := w) (F := F') ((e0 :: l).map El.row) g 0 cap 4 (fun i c => ks.getD (i * 4 + c) undef) (by simpa using hcap) (fun r hr => by obtain ⟨e, _, rfl⟩ := List.mem_map.1 hr; exact e.row_len) (hb g rfl)
        (fun i r c x hr hx => by
          rw [List.getElem?_map] at hr
          obtain ⟨e, he, rfl⟩ := Option.map_eq_some_iff.1 hr
          obtain ⟨u, hu, hd⟩ := hk.2 i e c x he hx
          have h1 := ho.cells (g := g) rfl (i * 4 + c) u hu
          have h2 : ks.getD (i * 4 + c) undef = u := by rw [List.getD_eq_getElem?_getD, hu]; rfl
          show w.cell? ⟨g, 0 + (i * 4 + c), none⟩ = some (ks.getD (i * 4 + c) undef)
          rw [h2, ← h1, adr_add])
        (fun i r c x hr hx => by
          rw [List.getElem?_map] at hr
          obtain ⟨e, he, rfl⟩ := Option.map_eq_some_iff.1 hr
          obtain ⟨u, hu, hd⟩ := hk.2 i e c x he hx
          have h2 : ks.getD (i * 4 + c) undef = u := by rw [List.getD_eq_getElem?_getD, hu]; rfl
          show DR w F' x (ks.getD (i * 4 + c) undef)
          rw [h2]
          exact hd.mono (fun k hk => ⟨hF k hk, rfl⟩))
      simpa using this
section
variable {B : Base} {x : Ctx} {O : Nat → Nat → Prop}
theorem Rel.part {H : Heap} (hR : Rel B x O H) {id : Nat} {r r' : Raw} (hid : H[id]? = some (some (.raw r))) (Fz : Nat → Prop) (hFz : ∀ k, Fz k → O id k) (hμ : x.μ id = none)
    (hr : ∀ F', (∀ k, F' k ↔ x.F k ∨ Fz k) → r'.R x.w F' (fun k => O id k ∧ ¬ Fz k) none) :
    ∃ y O', y.w = x.w ∧ x.Le y ∧ (∀ k, y.F k ↔ x.F k ∨ Fz k) ∧ Rel B y O' (H.set id (some (.raw r'))) := by
  have hlt : id < H.length := (List.getElem?_eq_some_iff.1 hid).1
  have hN : nOf (H.set id (some (.raw r'))) = nOf H := by
    funext i
    by_cases e : i = id
    · subst e
      rw [nOf_some (b := .raw r') (by simp [hlt]), nOf_some hid]; rfl
    · unfold nOf; rw [List.getElem?_set_ne (by omega)]
  let y : Ctx := { w := x.w, F := fun k => x.F k ∨ Fz k, μ := x.μ, N := x.N, L := x.L }
  have hle : x.Le y := ⟨fun k hk => ⟨.inl hk, rfl⟩, Nat.le_refl _, Nat.le_refl _, fun i hi s m hm => ⟨m, hm, Nat.le_refl _, fun _ => ⟨rfl, fun _ _ _ => rfl⟩⟩⟩
  have hsub : ∀ i k, (O i k ∧ (i = id → ¬ Fz k)) → O i k := fun i k h => h.1
  refine ⟨y, fun i k => O i k ∧ (i = id → ¬ Fz k), rfl, hle, fun k => Iff.rfl, ?_⟩
  refine ⟨by show x.L = _; rw [List.length_set]; exact hR.hL, fun i => by rw [hN]; exact hR.hN i, hR.le.trans hle, hR.os, hR.tape, hR.output, hR.keep, fun i k hk => hR.own i k hk.1, fun k hk => ?_, fun i j k hi hj => hR.disj _ _ _ hi.1 hj.1, fun i k hk hf => ?_, fun i bb hb => ?_⟩
  · rcases hk with hk | hk
    · exact hR.fr k hk
    · have := hR.own id k (hFz k hk)
      exact ⟨this.1, this.2.elim (fun h => .inr (.inl h)) (fun h => .inr (.inr h))⟩
  · rcases hf with hf | hf
    · exact hR.nof _ _ hk.1 hf
    · have e := hR.disj _ _ _ hk.1 (hFz k hf)
      exact hk.2 e hf
  · by_cases e : i = id
    · subst e
      rw [List.getElem?_set_self hlt] at hb
      cases hb
      refine ⟨fun g lo h => ?_, ?_⟩
      · have : x.μ i = some (g, lo) := h
        rw [hμ] at this; cases this
      · show r'.R x.w (fun k => x.F k ∨ Fz k) _ (x.μ i)
        rw [hμ]
        exact r'.mono (fun k h => ⟨h, rfl⟩) (fun k h => ⟨h.1, fun _ => h.2⟩) (fun _ _ => rfl) (hr _ (fun k => Iff.rfl))
    · rw [List.getElem?_set_ne (by omega)] at hb
      exact (hR.blk i bb hb).mono hle rfl (fun k h => ⟨h, fun e' => absurd e' e⟩) (fun _ _ => rfl)
end
theorem afn_pre {E : Env} {f : FuncId} {args args1 : List A} {H H1 : Heap} {r : A} {H' : Heap} (hl : H1.length = H.length)
    (hpre : ∀ (B : Base) (x : Ctx) (O : Nat → Nat → Prop) (vs : Array Value), Rel B x O H → TR x args vs → ∃ y O', y.w = x.w ∧ Rel B y O' H1 ∧ TR y args1 vs) (h : AFn E f args1 H1 r H') : AFn E f args H r H' := by
  refine ⟨h.1, fun B vs w hB hL hs => ?_⟩
  obtain ⟨x, O, rfl, hR, hT⟩ := hs
  obtain ⟨y, O', e, hR', hT'⟩ := hpre B x O vs hR hT
  exact h.2 B vs x.w hB (by rw [hL, hl]) ⟨y, O', e, hR', hT'⟩
theorem gt_some {α : Type} [Inhabited α] {l : List α} {n : Nat} (h : n < l.length) : l[n]? = some (gt l n) := by
  rw [gt, List.getD_eq_getElem?_getD, List.getElem?_eq_getElem h]; rfl
theorem agg4 {cs : List C} {vs : Array Value} {x : Ctx} (h : CsR x cs vs) (hl : cs.length = 4) : ∃ a b c d, vs = #[a, b, c, d] := by
  obtain ⟨l⟩ := vs
  have := h.1
  match l, this with
  | [a, b, c, d], _ => exact ⟨a, b, c, d, rfl⟩
  | [], h => simp [hl] at h
  | [_], h => simp [hl] at h
  | [_, _], h => simp [hl] at h
  | [_, _, _], h => simp [hl] at h
  | _ :: _ :: _ :: _ :: _ :: _, h => simp [hl] at h
theorem put_pre {b0 : Blk} {rs : List (List D)} {rty : Option TypeId} {rws : List RW} {os : List OE} {t : OE} {n : Nat} {r : A} {H' : Heap} (hn : n = os.length) (hrw : rws.length = n + 1)
    (h : AFn env 37 [P0, (El.mk t.name t.ats t.kids t.text).a] [some b0, some (.rows 4 rs rty), some (.raw (kidsR (rws.take n) os))] r H') :
    AFn env 37 [P0, .agg [.d (dS t.name), .d (.sc (gt rws n).av), .d (.sc (gt rws n).kv), .d (dS t.text)]] [some b0, some (.rows 4 rs rty), some (.raw (kidsR rws (os ++ [t])))] r H' := by
  refine afn_pre (args1 := [P0, (El.mk t.name t.ats t.kids t.text).a]) (H1 := [some b0, some (.rows 4 rs rty), some (.raw (kidsR (rws.take n) os))]) rfl (fun B x O vs hR hT => ?_) h
  obtain ⟨_, hm, hkd⟩ := hR.blk 2 _ rfl
  have hkd : Kd x.w x.F (O 2) rws (os ++ [t]) := hkd
  have hg := gt_some (l := rws) (n := n) (by omega)
  have ht : (os ++ [t])[n]? = some t := by rw [hn, List.getElem?_append_right (Nat.le_refl _)]; simp
  have ha := hkd.ar n _ t hg ht
  have hkt := hkd.kid n _ hg
  obtain ⟨y, O', e1, l1, hF, R1⟩ := hR.part (r' := kidsR (rws.take n) os) rfl (fun k => (gt rws n).kv.ownBlock = some k) (fun k hk => hkd.own n _ hg k hk) hm (fun F' hF' => ⟨rfl, by
    have tk : ∀ (i : Nat) r, (rws.take n)[i]? = some r → i < n ∧ rws[i]? = some r := fun i r hr => by
      rw [List.getElem?_take] at hr
      split at hr
      · exact ⟨by assumption, hr⟩
      · cases hr
    have hkd' := hkd.mono (F' := F') (O' := O 2) (w' := x.w) (fun k hk => ⟨(hF' k).2 (.inl hk), rfl⟩) (fun k hk => hk) (fun _ _ => rfl)
    refine ⟨by rw [List.length_take]; omega, fun i r hr => hkd'.kid i r (tk i r hr).2, fun i r hr k hk => ⟨hkd'.own i r (tk i r hr).2 k hk, fun e => ?_⟩, fun i j r s k hr hs => hkd'.dis i j r s k (tk i r hr).2 (tk j s hs).2, fun i r o hr ho => hkd'.ar i r o (tk i r hr).2 (by rw [List.getElem?_append_left (by have := (tk i r hr).1; omega)]; exact ho)⟩
    have := hkd.dis i n r _ k (tk i r hr).2 hg hk e
    have := (tk i r hr).1
    omega⟩)
  refine ⟨y, O', e1, R1, hT.1, fun i a hi => ?_⟩
  match i, hi with
  | 0, hi =>
    cases hi
    obtain ⟨u, hu, hv⟩ := hT.2 0 _ rfl
    exact ⟨u, hu, hv.mono l1⟩
  | 1, hi =>
    cases hi
    obtain ⟨u, hu, hv⟩ := hT.2 1 _ rfl
    refine ⟨u, hu, ?_⟩
    cases hv with | agg _ vs' hc =>
    obtain ⟨va, vb, vc, vd, rfl⟩ := agg4 hc rfl
    obtain ⟨ua, hua, h1⟩ := hc.2 0 _ rfl
    obtain ⟨ub, hub, h2⟩ := hc.2 1 _ rfl
    obtain ⟨uc, huc, h3⟩ := hc.2 2 _ rfl
    obtain ⟨ud, hud, h4⟩ := hc.2 3 _ rfl
    cases hua; cases hub; cases huc; cases hud
    have q2 : vb = (gt rws n).av := by cases h2 with | d _ _ h2 => exact h2.sc_eq
    have q3 : vc = (gt rws n).kv := by cases h3 with | d _ _ h3 => exact h3.sc_eq
    subst q2 q3
    refine .agg _ _ ⟨rfl, fun i c hi => ?_⟩
    match i, hi with
    | 0, hi => cases hi; exact ⟨_, rfl, h1.mono l1⟩
    | 1, hi =>
      cases hi
      exact ⟨_, rfl, .d _ _ (by rw [e1]; exact ha.av.mono (fun k hk => ⟨(hF k).2 (.inl hk), rfl⟩))⟩
    | 2, hi =>
      cases hi
      exact ⟨_, rfl, .d _ _ (by rw [e1]; exact kid_fz hkt ha.ks (fun k hk => (hF k).2 (.inl hk)) (fun k hk => (hF k).2 (.inr hk)))⟩
    | 3, hi => cases hi; exact ⟨_, rfl, h4.mono l1⟩
    | i + 4, hi => simp at hi
  | i + 2, hi => simp at hi
theorem wk_pf {m : Nat} {r : A} (hr : Scal r) {c0 : C} {ds : List D} {ty ty3 : Option TypeId} {b1 b2 : Option Blk} :
    Wk m [r] [some (.box [c0, .ptr 3 0 0 0] ty), b1, b2, some (.box (ds.map .d) ty3)] [r] [some (.box [c0, .pf ds 0] ty), b1, b2, none] := by
  intro B a w hm hs
  obtain ⟨hd, x, O, rfl, hR, hT⟩ := hs
  obtain ⟨g, vs, t, hμ, hO, hh, hcs⟩ := hR.blk 3 _ rfl
  obtain ⟨y, O', e1, l1, hF, R1⟩ := hR.freeze (id := 3) rfl
  have hN3 : x.N 3 = some (0, 0) := by rw [hR.hN]; rfl
  obtain ⟨P0', vs0, t0, hμ0, hO0, hh0, hcs0⟩ := hR.blk 0 _ rfl
  have R2 := R1.retell (i := 0) (cs := [c0, .ptr 3 0 0 0]) (cs' := [c0, .pf ds 0]) (ty := ty) rfl (fun g' vs' t' h1 h2 h3 => by
    refine ⟨h3.1, fun i c hi => ?_⟩
    match i, hi with
    | 0, hi => cases hi; exact h3.2 0 _ rfl
    | 1, hi =>
      cases hi
      obtain ⟨u, hu, hv⟩ := h3.2 1 _ rfl
      refine ⟨u, hu, ?_⟩
      -- the pointer as it was
      have hle0 := l1.N 0 (by rw [hR.hL]; simp) 0 0 (by rw [R1.hN]; rfl)
      obtain ⟨n0, hn1, _, hn2⟩ := hle0
      have hn0 : n0 = 0 := by have : x.N 0 = some (0, 0) := by rw [hR.hN]; rfl
                              rw [this] at hn1; cases hn1; rfl
      obtain ⟨hμe, _⟩ := hn2 hn0
      have hg' : g' = P0' := by rw [h1] at hμe; rw [hμ0] at hμe; cases hμe; rfl
      subst hg'
      have hvv : vs' = vs0 := by
        rw [e1, hh0] at h2
        cases h2; rfl
      subst hvv
      obtain ⟨u', hu', hv'⟩ := hcs0.2 1 _ rfl
      rw [hu] at hu'
      cases hu'
      cases hv' with | ptr _ _ _ _ _ hp =>
      obtain ⟨_, _, hp3⟩ := hp
      obtain ⟨_, hp4⟩ := hp3 0 0 hN3
      obtain ⟨b, lo, hb1, hb2, hb3⟩ := hp4 rfl
      rw [hμ] at hb1
      cases hb1
      simp at hb3
      rw [hb3]
      have := VR.pf (x := y) ds 0 g 0 (fun _ => (hF g).2 (.inr hO)) (fun k d hk => by
        obtain ⟨v, hv1, hv2⟩ := hcs.2 k (.d d) (by rw [List.getElem?_map, hk]; rfl)
        refine ⟨v, ?_, ?_⟩
        · rw [e1]
          have : x.w.cell? ⟨g, 0 + k, none⟩ = vs[0 + k]? := by simp [World.cell?, hh]
          rw [this, Nat.zero_add]; exact hv1
        · cases hv2 with | d _ _ hv2 => exact hv2.mono (fun k hk => ⟨(hF k).2 (.inl hk), by rw [e1]⟩))
      simpa using this
    | i + 2, hi => simp at hi)
  refine ⟨hd, y, O', e1, R2, hT.1, fun i b hb => ?_⟩
  cases i with
  | zero =>
    cases hb
    obtain ⟨u, hu, hv⟩ := hT.2 0 _ rfl
    exact ⟨u, hu, hr x y u hv⟩
  | succ i => simp at hb
theorem fin_put0 {T : List A} {e : El} {rs : List (List D)} {ty ty2 ty3 : Option TypeId} (hl : rs.length = 1) :
    Fin env [] (.tup []) [some (.raw (parR [] (some e))), none, none] 3 .ret T [some (.box [.own 1 0 0 1, .ptr 3 0 0 0] ty), some (.rows 4 rs ty2), some (.raw (kidsR [] [])), some (.box e.bs ty3)] := by
  refine fin_hand (l := []) rfl ?_
  have eb : e.bs = e.row.map .d := by rw [El.row_eq]; rfl
  rw [eb]
  refine (wk_pf scal_t).trans (wk_par (j := 2) (wh := some e) scal_t rfl rfl hl.symm rfl (fun w F cell hc => ⟨[], rfl, fun i c r u h => by simp at h, fun O' h => h⟩))
theorem append_types {P : Program} {t u e e' : TypeId} (ht : P.underlying t = some (.slice e)) (hu : P.underlying u = some (.slice e')) (ty : TypeId) (v x : Value) (w : World) : (Builtin.append_ #[t, u] ty #[v, x]).run P w = (Builtin.append_ #[t, t] ty #[v, x]).run P w := by
  cases v with
  | slice b n c => simp [Builtin.append_, run_underlying ht, run_underlying hu]
  | _ => simp [Builtin.append_, run_underlying ht, run_underlying hu]
theorem info25 : (Tryd.prog.info? 25).map (fun i => (i.zero, i.size, i.bytes)) = some (some (.agg #[.string ⟨#[]⟩, .slice none 0 0, .slice none 0 0, .string ⟨#[]⟩]), 4, 80) := by kernel_rfl
structure KT where
  ka : Option Addr
  kc : Nat
  ks : List Value
instance : Inhabited KT := ⟨⟨none, 0, []⟩⟩
def kAdd (rws : List RW) (p : Nat) (θ : KT) : List RW := rws.set p { gt rws p with ka := θ.ka, kn := (gt rws p).kn + 1, kc := θ.kc, ks := θ.ks }
theorem app_kid {H : Heap} {T : List A} {o : Oper} {s1 s2 : Operand} {rws : List RW} {os0 : List OE} {q : OE} {e : El} {p : Nat} (ho : o.op = .call { callee := .builtin .append, args := #[s1, s2], argTypes := #[23, 23] })
    (h2 : H[2]? = some (some (.raw (kidsR rws (os0 ++ [q]))))) (hp : rws.length = p + 1) (hpo : p = os0.length)
    (hs : ev env T s1 = .c (.d (.sc (.slice (gt rws p).ka (gt rws p).kn (gt rws p).kc)))) (hx : ev env T s2 = .c (.d (.fz [e.row]))) (hlim : q.kids.length < 1000000) :
    OpN env T H o (fun θ : KT => .c (.d (.sc (.slice θ.ka ((gt rws p).kn + 1) θ.kc)))) (fun θ => H.set 2 (some (.raw (kidsR (kAdd rws p θ) (os0 ++ [{ q with kids := q.kids ++ [e] }]))))) := by
  intro B x O a K Q hB hR hd hsz hop hk
  obtain ⟨_, hm, hkd⟩ := hR.blk 2 _ h2
  have hkd : Kd x.w x.F (O 2) rws (os0 ++ [q]) := hkd
  have hg := gt_some (l := rws) (n := p) (by omega)
  have hq : (os0 ++ [q])[p]? = some q := by rw [hpo, List.getElem?_append_right (Nat.le_refl _)]; simp
  have HO := hkd.kid p _ hg
  have ha := hkd.ar p _ q hg hq
  have hkn : (gt rws p).kn = q.kids.length := by have h1 := HO.1; have h2 := ha.ks.1; omega
  have v1 := hop s1 (by rw [ho]; simp [Op.operands, Call.operands])
  have v2 := hop s2 (by rw [ho]; simp [Op.operands, Call.operands])
  rw [hs] at v1
  rw [hx] at v2
  have e1 : a.eval s1 = (gt rws p).kv := by
    generalize a.eval s1 = u at v1
    cases v1 with | c _ _ h => cases h with | d _ _ h => exact h.sc_eq
  obtain ⟨b, off, cap, c0, c1, c2, c3, e2, hF, hn0, hn1, hn2, hn3, hdr⟩ : ∃ b off cap c0 c1 c2 c3, a.eval s2 = .slice (some ⟨b, off, none⟩) 1 cap ∧ x.F b ∧ x.w.cell? ⟨b, off, none⟩ = some c0 ∧ x.w.cell? ⟨b, off + 1, none⟩ = some c1 ∧ x.w.cell? ⟨b, off + 2, none⟩ = some c2 ∧ x.w.cell? ⟨b, off + 3, none⟩ = some c3 ∧
      ∀ (c : Nat) d, e.row[c]? = some d → ∃ u, [c0, c1, c2, c3][c]? = some u ∧ DR x.w x.F d u := by
    generalize a.eval s2 = u at v2
    cases v2 with | c _ _ h => cases h with | d _ _ h =>
    cases h with | fz _ b o cap s u hcap hs hF hc hd =>
    have hs4 : s = 4 := by have := hs _ (List.mem_singleton.2 rfl); rw [El.row_len] at this; exact this.symm
    subst hs4
    rw [El.row_eq] at hc hd
    refine ⟨b, o, cap, u 0 0, u 0 1, u 0 2, u 0 3, rfl, hF, by simpa using hc 0 _ 0 _ rfl rfl, by simpa using hc 0 _ 1 _ rfl rfl, by simpa using hc 0 _ 2 _ rfl rfl, by simpa using hc 0 _ 3 _ rfl rfl, fun c d hcd => ?_⟩
    rw [El.row_eq] at hcd
    match c, hcd with
    | 0, hcd => cases hcd; exact ⟨_, rfl, hd 0 _ 0 _ rfl rfl⟩
    | 1, hcd => cases hcd; exact ⟨_, rfl, hd 0 _ 1 _ rfl rfl⟩
    | 2, hcd => cases hcd; exact ⟨_, rfl, hd 0 _ 2 _ rfl rfl⟩
    | 3, hcd => cases hcd; exact ⟨_, rfl, hd 0 _ 3 _ rfl rfl⟩
    | c + 4, hcd => simp at hcd
  have hone : ∀ u ∈ [c0, c1, c2, c3], u.oneCell' = true := fun u hu => by
    obtain ⟨i, hi⟩ := List.mem_iff_getElem?.1 hu
    have hi4 : i < 4 := (List.getElem?_eq_some_iff.1 hi).1
    obtain ⟨d, hd'⟩ : ∃ d, e.row[i]? = some d := ⟨_, List.getElem?_eq_getElem (by rw [El.row_len]; exact hi4)⟩
    obtain ⟨u', h1, h3⟩ := hdr i d hd'
    rw [hi] at h1
    cases h1
    exact one_oneCell h3.one
  obtain ⟨i0, hi, hzz⟩ := Option.map_eq_some_iff.1 info25
  simp only [Prod.mk.injEq] at hzz
  obtain ⟨hz0, hz1, hz2⟩ := hzz
  obtain ⟨u1, w1, hrn, r2, r3, r4, r5⟩ := run_append_own_at (P := Tryd.prog) x.w 0 23 o.type 25 i0 _ 4 80 Tryd.underlying23 hi hz0 hz1 hz2 rfl (by decide) (gt rws p).kv (gt rws p).kn (gt rws p).ks HO ⟨b, off, none⟩ 1 cap [c0, c1, c2, c3] rfl
    (fun j u hj => by
      rw [adr_add]
      match j, hj with
      | 0, hj => cases hj; exact hn0
      | 1, hj => cases hj; exact hn1
      | 2, hj => cases hj; exact hn2
      | 3, hj => cases hj; exact hn3
      | j + 4, hj => simp at hj) hone (by simp only [maxLen]; omega) (by omega) (Nat.zero_le _)
  obtain ⟨ka', kc', rfl⟩ := own_slice r2
  have hlt2 : ∀ k, O 2 k → k < x.w.heap.size := fun k hk => (hR.own 2 k hk).1
  have hFn : ∀ k, x.F k → w1.heap[k]? = x.w.heap[k]? := fun k hk => r3.block k (hR.fr k hk).1 (fun e => hR.nof 2 k (hkd.own p _ hg k e.symm) hk)
  have key : ∃ y O', y.w = w1 ∧ x.Le y ∧ y.F = x.F ∧ y.μ 2 = none ∧ Rel B y O' (H.set 2 (some (.raw (kidsR (kAdd rws p ⟨ka', kc', (gt rws p).ks ++ [c0, c1, c2, c3]⟩) (os0 ++ [{ q with kids := q.kids ++ [e] }]))))) := by
   refine hR.upd (b' := .raw (kidsR (kAdd rws p ⟨ka', kc', (gt rws p).ks ++ [c0, c1, c2, c3]⟩) (os0 ++ [{ q with kids := q.kids ++ [e] }]))) h2 w1 none (fun k => O 2 k ∨ x.w.heap.size ≤ k ∧ k < w1.heap.size)
    r3.os r3.tape r3.output r3.size (fun k hk hn => r3.block k hk (fun e => hn (hkd.own p _ hg k e.symm))) (fun k hk => ?_) ⟨rfl, Nat.le_refl _, fun _ => ⟨hm.symm, fun g lo h => by rw [hm] at h; cases h⟩⟩ (fun y hw hle hyF hyμ => ?_)
   · rcases hk with hk | hk
     · exact ⟨.inl hk, Nat.lt_of_lt_of_le (hlt2 k hk) r3.size⟩
     · exact ⟨.inr hk.1, hk.2⟩
   · refine ⟨fun g lo h => (by rw [hyμ] at h; cases h), hyμ, ?_⟩
     rw [hw, hyF]
     -- the kids of the others stay
     have get : ∀ (i : Nat) r, (kAdd rws p ⟨ka', kc', (gt rws p).ks ++ [c0, c1, c2, c3]⟩)[i]? = some r → (rws[i]? = some r ∧ i ≠ p) ∨ (i = p ∧ r = { gt rws p with ka := ka', kn := (gt rws p).kn + 1, kc := kc', ks := (gt rws p).ks ++ [c0, c1, c2, c3] }) := fun i r hr => by
       unfold kAdd at hr
       by_cases hi : p = i
       · subst hi
         rw [List.getElem?_set_self (by omega)] at hr
         exact .inr ⟨rfl, (Option.some.inj hr).symm⟩
       · rw [List.getElem?_set_ne hi] at hr
         exact .inl ⟨hr, fun e => hi e.symm⟩
     have other : ∀ (i : Nat) r k, rws[i]? = some r → i ≠ p → r.kv.ownBlock = some k → w1.heap[k]? = x.w.heap[k]? := fun i r k hr hi hk' => r3.block k (hlt2 k (hkd.own i r hr k hk')) (fun e => hi (hkd.dis i p r _ k hr hg hk' e.symm))
     have hlen' : (kAdd rws p ⟨ka', kc', (gt rws p).ks ++ [c0, c1, c2, c3]⟩).length = rws.length := by unfold kAdd; rw [List.length_set]
     have hnew : ∀ k, (Value.slice ka' ((gt rws p).kn + 1) kc').ownBlock = some k → (gt rws p).kv.ownBlock = some k ∨ k = x.w.heap.size := fun k hk' => by
       rcases r5 with r5 | r5
       · left; rw [← r5]; exact hk'
       · right; rw [r5] at hk'; exact (Option.some.inj hk').symm
     refine ⟨by rw [hlen', hp, hpo]; simp, fun i r hr => ?_, fun i r hr k hk' => ?_, fun i j r s k hr hs hk' hk2 => ?_, fun i r o hr ho2 => ?_⟩
     · rcases get i r hr with ⟨h1, hi⟩ | ⟨rfl, rfl⟩
       · exact own_same (hkd.kid i r h1) (fun k hk' => other i r k h1 hi hk')
       · exact r2
     · rcases get i r hr with ⟨h1, hi⟩ | ⟨rfl, rfl⟩
       · exact .inl (hkd.own i r h1 k hk')
       · rcases hnew k hk' with h | h
         · exact .inl (hkd.own i _ hg k h)
         · right
           obtain ⟨cs, hcs⟩ := own_at r2 k hk'
           exact ⟨by omega, (Array.getElem?_eq_some_iff.1 hcs).1⟩
     · rcases get i r hr with ⟨h1, hi⟩ | ⟨rfl, rfl⟩ <;> rcases get j s hs with ⟨h3, hj⟩ | ⟨rfl, rfl⟩
       · exact hkd.dis i j r s k h1 h3 hk' hk2
       · exfalso
         rcases hnew k hk2 with h | h
         · exact hi (hkd.dis i j r _ k h1 hg hk' h)
         · have := hlt2 k (hkd.own i r h1 k hk'); omega
       · exfalso
         rcases hnew k hk' with h | h
         · exact hj (hkd.dis j i s _ k h3 hg hk2 h)
         · have := hlt2 k (hkd.own j s h3 k hk2); omega
       · rfl
     · rcases get i r hr with ⟨h1, hi⟩ | ⟨rfl, rfl⟩
       · have h4 : i < os0.length := by have h3 : i < rws.length := (List.getElem?_eq_some_iff.1 h1).1
                                        omega
         rw [List.getElem?_append_left h4] at ho2
         exact (hkd.ar i r o h1 (by rw [List.getElem?_append_left h4]; exact ho2)).mono (fun k hk' => ⟨hk', hFn k hk'⟩)
       · rw [hpo, List.getElem?_append_right (Nat.le_refl _)] at ho2
         simp at ho2
         subst ho2
         refine ⟨ha.name, ha.text, ha.one, ha.av.mono (fun k hk' => ⟨hk', hFn k hk'⟩), ?_, fun i e' c d he hd' => ?_⟩
         · have := ha.ks.1
           simp [this]; omega
         · have hlk := ha.ks.1
           by_cases hi : i < q.kids.length
           · rw [List.getElem?_append_left hi] at he
             obtain ⟨u, hu, hdd⟩ := ha.ks.2 i e' c d he hd'
             exact ⟨u, by rw [List.getElem?_append_left (List.getElem?_eq_some_iff.1 hu).1]; exact hu, hdd.mono (fun k hk' => ⟨hk', hFn k hk'⟩)⟩
           · have hiq : i = q.kids.length := by
               have := (List.getElem?_eq_some_iff.1 he).1
               simp at this; omega
             subst hiq
             rw [List.getElem?_append_right (Nat.le_refl _)] at he
             simp at he
             subst he
             obtain ⟨u, hu, hdd⟩ := hdr c d hd'
             exact ⟨u, by rw [List.getElem?_append_right (by omega), hlk, Nat.add_sub_cancel_left]; exact hu, hdd.mono (fun k hk' => ⟨hk', hFn k hk'⟩)⟩
  obtain ⟨y, O', ey, ly, Fy, _, R1⟩ := key
  unfold Oper.wp execOp
  have hrn' := (append_types Tryd.underlying23 Tryd.underlying23 o.type (gt rws p).kv (.slice (some ⟨b, off, none⟩) 1 cap) x.w).trans hrn
  have hP : env.P = Tryd.prog := rfl
  rw [hP]
  simp only [ho, resolve, invoke, builtin, Sem.run_bind, Sem.run_pure, Result.andThen_ok, List.map_toArray, List.map_cons, List.map_nil, e1, e2, hrn']
  rw [← ey]
  exact hk ⟨ka', kc', (gt rws p).ks ++ [c0, c1, c2, c3]⟩ _ y O' ly R1 (.c _ _ (.d _ _ (.sc _ rfl)))
end Go.Eng
