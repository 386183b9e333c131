/- What the walked functions come to is as the law says: plain Lean. -/
import Derived.Test.YthodghlpcklaeaaDoorMd
import Derived.Test.YthodghlpcklaeaaDoorMe
open Go Go.Proofs
namespace Go.Eng
set_option linter.unusedSimpArgs false
set_option linter.unusedVariables false
set_option maxRecDepth 10000
set_option maxHeartbeats 4000000
def fateV (w : B) (s : List Int) (i : Nat) : Int := if livesF s w i = false then 3 else if (gt w.kids i).kind = 12 ∧ (gt w.kids i).x ≠ 3 then 2 else 1
def lv (v : Int) : Int := if v < 2 then 0 else v - 1
theorem fate_v {w : B} {s : List Int} {i : Nat} : fateF s w i = if fateV w s i < 2 then s.set (40 + i) 1 else giveF (outsK w i) (lv (fateV w s i)) (s.set (40 + i) (fateV w s i)) := by
  unfold fateF fateV lv
  by_cases h1 : livesF s w i = false
  · simp [h1]
  · by_cases h2 : (gt w.kids i).kind = 12 ∧ (gt w.kids i).x ≠ 3
    · rw [if_neg h1, if_pos h2, if_neg h1, if_pos h2]; simp
    · rw [if_neg h1, if_neg h2, if_neg h1, if_neg h2]; simp
theorem fateV_in (w : B) (s : List Int) (i : Nat) : 1 ≤ fateV w s i ∧ fateV w s i ≤ 3 := by
  unfold fateV; repeat' split
  all_goals decide
theorem takenF_congr {s t : List Int} : ∀ {l : List Int}, (∀ q ∈ l, gt s q.toNat = gt t q.toNat) → takenF s l = takenF t l
  | [], _ => rfl
  | q :: l, h => by rw [takenF, takenF, takenF_congr (l := l) fun x hx => h x (by simp [hx]), h q (by simp)]
theorem ins_iff {w : B} {i : Int} {q : Int} (h : q ∈ insK w i) : ∃ k : Nat, q = k ∧ k < w.links.length ∧ (gt w.links k).dst = i := by
  have hm := idx2_mem h
  obtain ⟨k, rfl⟩ : ∃ k : Nat, q = k := ⟨q.toNat, by omega⟩
  unfold insK at h
  rw [idx2_iff] at h
  exact ⟨k, rfl, by omega, by simpa using h.2.2⟩
theorem fateV_congr {w : B} {s t : List Int} {i : Nat} (h : ∀ k, k < w.links.length → (gt w.links k).dst = i → gt s k = gt t k) : fateV w s i = fateV w t i := by
  have e : takenF s (insK w i) = takenF t (insK w i) := takenF_congr fun q hq => by
    obtain ⟨k, rfl, h1, h2⟩ := ins_iff hq
    rw [Int.toNat_natCast]; exact h k h1 h2
  unfold fateV livesF
  rw [e]
structure Fx (w : B) (s : List Int) (P : List Nat) (T : List Int) : Prop extends Inv w T where
  fk : ∀ j, j < w.kids.length → gt s (40 + j) ≠ 0 → gt T (40 + j) = if j ∈ P then 2 else gt s (40 + j)
  fw : ∀ j, j < w.kids.length → gt s (40 + j) = 0 → gt T (40 + j) ≠ 0 → (∀ k, k < w.links.length → (gt w.links k).dst = j → gt T k ≠ 0) ∧ gt T (40 + j) = fateV w T j
  fl : ∀ k, k < w.links.length → gt T k = if 0 ≤ (gt w.links k).src ∧ gt s (40 + (gt w.links k).src.toNat) < 2 then lv (gt T (40 + (gt w.links k).src.toNat)) else gt s k
theorem fx_0 {w : B} {s : List Int} (h : Inv w s) : Fx w s [] s := ⟨h, fun j _ _ => by simp, fun j _ h0 h1 => absurd h0 h1, fun k hk => by
  split
  · rename_i hs
    rw [(h.op k hk).2 hs]
    unfold lv; rw [if_pos hs.2]
  · rfl⟩
theorem fx_step {w : B} {s T T' : List Int} {P P' : List Nat} {i : Nat} {v : Int} (hr : rgtW w = true) (h : Fx w s P T) (hi : Inv w T') (hin : i < w.kids.length) (ho : gt T (40 + i) < 2) (hv : 1 ≤ v)
    (hk : gt T' (40 + i) = v) (hj : ∀ j, j < w.kids.length → j ≠ i → gt T' (40 + j) = gt T (40 + j)) (hl : ∀ k, k < w.links.length → gt T' k = if (gt w.links k).src = i then lv v else gt T k)
    (h1 : gt s (40 + i) ≠ 0 → gt s (40 + i) < 2 ∧ v = if i ∈ P' then 2 else gt s (40 + i)) (h2 : gt s (40 + i) = 0 → (∀ k, k < w.links.length → (gt w.links k).dst = i → gt T k ≠ 0) ∧ v = fateV w T i) (hP : ∀ j, j ≠ i → (j ∈ P' ↔ j ∈ P)) : Fx w s P' T' := by
  have hopn : ∀ k, k < w.links.length → (gt w.links k).src = i → gt T k = 0 := fun k hk he => (h.op k hk).2 (by rw [he]; exact ⟨by omega, by rw [Int.toNat_natCast]; exact ho⟩)
  have hkeep : ∀ k, k < w.links.length → gt T k ≠ 0 → gt T' k = gt T k := fun k hk h0 => by
    rw [hl k hk, if_neg (fun he => h0 (hopn k hk he))]
  refine ⟨hi, fun j hjn h0 => ?_, fun j hjn h0 hne => ?_, fun k hkl => ?_⟩
  · by_cases e : j = i
    · subst e; rw [hk]; exact (h1 h0).2
    · rw [hj j hjn e, h.fk j hjn h0]
      simp only [hP j e]
  · by_cases e : j = i
    · subst e
      have := h2 h0
      refine ⟨fun k hkl hd => by rw [hkeep k hkl (this.1 k hkl hd)]; exact this.1 k hkl hd, ?_⟩
      rw [hk, this.2]
      exact fateV_congr fun k hkl hd => (hkeep k hkl (this.1 k hkl hd)).symm
    · rw [hj j hjn e] at hne ⊢
      have := h.fw j hjn h0 hne
      refine ⟨fun k hkl hd => by rw [hkeep k hkl (this.1 k hkl hd)]; exact this.1 k hkl hd, ?_⟩
      rw [this.2]
      exact fateV_congr fun k hkl hd => (hkeep k hkl (this.1 k hkl hd)).symm
  · have hlk := linksOk hr k hkl
    rw [hl k hkl]
    by_cases e : (gt w.links k).src = i
    · have hs2 : gt s (40 + i) < 2 := by
        by_cases h0 : gt s (40 + i) = 0
        · omega
        · exact (h1 h0).1
      rw [if_pos e, e, Int.toNat_natCast, hk, if_pos ⟨by omega, hs2⟩]
    · rw [if_neg e, h.fl k hkl]
      by_cases h0 : 0 ≤ (gt w.links k).src
      · rw [hj (gt w.links k).src.toNat (by omega) (by omega)]
      · rw [if_neg (fun h => h0 h.1), if_neg (fun h => h0 h.1)]
theorem upd_get {w : B} {s : List Int} {i : Nat} {v a : Int} (hw : Wb w) (hs : s.length = 104) (hi : i < w.kids.length) :
    (∀ j, j < w.kids.length → j ≠ i → gt (giveF (outsK w i) a (s.set (40 + i) v)) (40 + j) = gt s (40 + j)) ∧ ∀ k, k < w.links.length → gt (giveF (outsK w i) a (s.set (40 + i) v)) k = if (gt w.links k).src = i then a else gt s k := by
  have hk := hw.hk
  have hl := hw.hl
  have ho := outs_40 hw i
  have hls : (s.set (40 + i) v).length = 104 := by simpa using hs
  refine ⟨fun j hj hne => ?_, fun k hkl => ?_⟩
  · rw [give_get ho (by omega) hls, gtI_set2 _ _ _ _ (by omega), if_neg (by omega)]
  · rw [give_get2 ho hls, gtI_set2 _ _ _ _ (by omega), if_neg (show ¬ 40 + i = k by omega)]
    by_cases e : (gt w.links k).src = i
    · rw [if_pos (outs_iff.2 ⟨hkl, e⟩), if_pos e]
    · rw [if_neg (fun hm => e (outs_iff.1 hm).2), if_neg e]
theorem set_get {w : B} {s : List Int} {i : Nat} (hw : Wb w) (h : Inv w s) (hi : i < w.kids.length) (h0 : gt s (40 + i) < 2) :
    (∀ j, j < w.kids.length → j ≠ i → gt (s.set (40 + i) 1) (40 + j) = gt s (40 + j)) ∧ ∀ k, k < w.links.length → gt (s.set (40 + i) 1) k = if (gt w.links k).src = i then lv 1 else gt s k := by
  have hk := hw.hk
  have hl := hw.hl
  have hlen := h.len
  refine ⟨fun j hj hne => ?_, fun k hkl => ?_⟩
  · rw [gtI_set2 _ _ _ _ (by omega), if_neg (by omega)]
  · rw [gtI_set2 _ _ _ _ (by omega), if_neg (by omega)]
    split
    · rename_i e
      rw [(h.op k hkl).2 (by rw [e]; exact ⟨by omega, by rw [Int.toNat_natCast]; exact h0⟩)]
      rfl
    · rfl
theorem fx_fate {w : B} {s T : List Int} {P : List Nat} {i : Nat} (hr : rgtW w = true) (hw : Wb w) (h : Fx w s P T) (hp : pickF T w = some i) : Fx w s P (fateF T w i) := by
  have hs := pick_spec hp
  have hk := hw.hk
  have hl := hw.hl
  have hlen := h.len
  have hiv := (inv_fate hw h.toInv hs.1 hs.2).1
  have hs0 : gt s (40 + i) = 0 := Classical.byContradiction fun hne => by
    have := h.fk i hs.1 hne
    rw [hs.2] at this
    split at this
    · cases this
    · exact hne this.symm
  have hrd : ready T w i = true := by
    unfold pickF at hp
    exact List.find?_some hp
  have hin : ∀ k, k < w.links.length → (gt w.links k).dst = i → gt T k ≠ 0 := fun k hkl hd h0 => by
    unfold ready at hrd
    rw [Bool.and_eq_true, List.all_eq_true] at hrd
    have := hrd.2 k (by unfold insK; rw [idx2_iff]; exact ⟨by omega, by omega, by simpa using hd⟩)
    rw [Int.toNat_natCast] at this
    exact of_decide_eq_true this h0
  have hv := fateV_in w T i
  have h2 : gt s (40 + i) = 0 → (∀ k, k < w.links.length → (gt w.links k).dst = i → gt T k ≠ 0) ∧ fateV w T i = fateV w T i := fun _ => ⟨hin, rfl⟩
  have h1 : gt s (40 + i) ≠ 0 → gt s (40 + i) < 2 ∧ fateV w T i = if i ∈ P then 2 else gt s (40 + i) := fun hne => absurd hs0 hne
  have e := fate_v (w := w) (s := T) (i := i)
  by_cases h3 : fateV w T i < 2
  · rw [if_pos h3] at e
    have h4 : fateV w T i = 1 := by omega
    have g := set_get hw h.toInv hs.1 (by omega)
    rw [e] at hiv ⊢
    rw [h4] at h1
    exact fx_step hr h hiv hs.1 (by omega) (by decide) (by rw [gtI_set2 _ _ _ _ (by omega), if_pos rfl]) g.1 g.2 h1 (fun _ => ⟨hin, h4.symm⟩) (fun j _ => Iff.rfl)
  · rw [if_neg h3] at e
    have g := upd_get (v := fateV w T i) (a := lv (fateV w T i)) hw hlen hs.1
    rw [e] at hiv ⊢
    exact fx_step hr h hiv hs.1 (by omega) hv.1 (give_kid hw hlen hs.1) g.1 g.2 h1 h2 (fun j _ => Iff.rfl)
theorem fx_settleN {w : B} {s : List Int} {P : List Nat} (hr : rgtW w = true) (hw : Wb w) : ∀ (k : Nat) {T : List Int}, Fx w s P T → Fx w s P (settleN w k T)
  | 0, T, h => h
  | k + 1, T, h => by
    rw [settleN]
    cases hp : pickF T w with
    | none => exact h
    | some i => exact fx_settleN hr hw k (fx_fate hr hw h hp)
theorem fx_done {w : B} {s T : List Int} {P : List Nat} {i : Nat} (hr : rgtW w = true) (hw : Wb w) (h : Fx w s P T) (hi : i < w.kids.length) (hs : gt s (40 + i) = 1) (ht : gt T (40 + i) = 1) : Fx w s (i :: P) (giveF (outsK w i) 1 (T.set (40 + i) 2)) := by
  have g := upd_get (s := T) (v := 2) (a := 1) hw h.len hi
  exact fx_step (v := 2) hr h (inv_step (v := 2) (a := 1) hw h.toInv hi (by omega) (by decide) (by decide)).1 hi (by omega) (by decide) (give_kid hw h.len hi) g.1 g.2 (fun _ => ⟨by omega, by simp⟩) (fun h0 => by omega) (fun j hne => by simp [hne])
theorem fx_same {w : B} {s T U : List Int} {P P' : List Nat} (hr : rgtW w = true) (hw : Wb w) (hT : Fx w s P T) (hU : Fx w s P' U) (hP : ∀ j, j ∈ P ↔ j ∈ P') (nT : pickF T w = none) (nU : pickF U w = none) : T = U := by
  have hk := hw.hk
  have hl := hw.hl
  have rdy : ∀ {X : List Int} {i : Nat}, pickF X w = none → i < w.kids.length → gt X (40 + i) = 0 → ¬ ∀ k, k < w.links.length → (gt w.links k).dst = i → gt X k ≠ 0 := fun {X i} hn hi h0 hall => by
    unfold pickF at hn
    rw [List.find?_eq_none] at hn
    refine hn i (by simp; omega) (ready_t h0 fun j hj hq => ?_)
    obtain ⟨k, hke, h1, h2⟩ := ins_iff (gt_mem hj)
    rw [hke, Int.toNat_natCast] at hq
    exact hall k h1 h2 hq
  have kids : ∀ j, j < w.kids.length → gt T (40 + j) = gt U (40 + j) := by
    intro j0 hj0
    refine Classical.byContradiction fun hne => ?_
    let t : List Bool := (List.range w.kids.length).map fun j => decide (gt T (40 + j) = gt U (40 + j))
    have htl : t.length = w.kids.length := by simp [t]
    have ht : ∀ j, j < w.kids.length → gt t j = decide (gt T (40 + j) = gt U (40 + j)) := fun j hj => by
      show gt ((List.range w.kids.length).map fun j => decide (gt T (40 + j) = gt U (40 + j))) j = _
      rw [gt, List.getD_eq_getElem?_getD]
      simp [hj]
    have hc : 0 < cf t := by
      have := cf_set (s := t) (j := j0) (by omega) (by rw [ht j0 hj0]; simpa using hne)
      omega
    obtain ⟨i, hi, hf⟩ := acyW hr t htl hc
    unfold freeF at hf
    rw [Bool.and_eq_true, ht i hi, List.all_eq_true] at hf
    have hne : gt T (40 + i) ≠ gt U (40 + i) := by simpa using hf.1
    have hin : ∀ k, k < w.links.length → (gt w.links k).dst = i → gt T k = gt U k := fun k hkl hd => by
      have hlk := linksOk hr k hkl
      rw [hT.fl k hkl, hU.fl k hkl]
      by_cases h0 : 0 ≤ (gt w.links k).src
      · have he : gt w.links k ∈ inner w.links := by
          unfold inner
          rw [List.mem_filter]
          refine ⟨gt_mem hkl, ?_⟩
          simp only [Bool.and_eq_true, decide_eq_true_eq]
          omega
        have hfe := hf.2 _ he
        unfold freeE at hfe
        rw [hd] at hfe
        simp only [decide_true, Bool.not_true, Bool.false_or] at hfe
        have hs2 := ht (gt w.links k).src.toNat (by omega)
        rw [show gt t (gt w.links k).src.toNat = true by exact hfe] at hs2
        rw [of_decide_eq_true hs2.symm]
      · rw [if_neg (fun h => h0 h.1), if_neg (fun h => h0 h.1)]
    by_cases h0 : gt s (40 + i) = 0
    · by_cases h1 : gt T (40 + i) = 0
      · have h2 : gt U (40 + i) ≠ 0 := fun h => hne (by rw [h1, h])
        exact rdy nT hi h1 fun k hkl hd => by rw [hin k hkl hd]; exact (hU.fw i hi h0 h2).1 k hkl hd
      · by_cases h2 : gt U (40 + i) = 0
        · exact rdy nU hi h2 fun k hkl hd => by rw [← hin k hkl hd]; exact (hT.fw i hi h0 h1).1 k hkl hd
        · exact hne (by rw [(hT.fw i hi h0 h1).2, (hU.fw i hi h0 h2).2]; exact fateV_congr hin)
    · refine hne ?_
      rw [hT.fk i hi h0, hU.fk i hi h0]
      simp only [hP i]
  have lks : ∀ k, k < 40 → gt T k = gt U k := fun k hk4 => by
    by_cases hkl : k < w.links.length
    · have hlk := linksOk hr k hkl
      rw [hT.fl k hkl, hU.fl k hkl]
      by_cases h0 : 0 ≤ (gt w.links k).src
      · rw [kids _ (by omega)]
      · rw [if_neg (fun h => h0 h.1), if_neg (fun h => h0 h.1)]
    · rw [(hT.lk k hk4).2.2 (by omega), (hU.lk k hk4).2.2 (by omega)]
  have kds : ∀ j, j < 64 → gt T (40 + j) = gt U (40 + j) := fun j hj => by
    by_cases hn : j < w.kids.length
    · exact kids j hn
    · rw [(hT.kd j hj).2.2 (by omega), (hU.kd j hj).2.2 (by omega)]
  have lT := hT.len
  have lU := hU.len
  refine List.ext_getElem (by omega) fun n h1 h2 => ?_
  have : gt T n = gt U n := by
    by_cases h : n < 40
    · exact lks n h
    · have := kds (n - 40) (by omega)
      rwa [show 40 + (n - 40) = n by omega] at this
  simpa [gt, List.getD, h1, h2] using this
theorem fin_eq {w : B} {s : List Int} {i : Nat} (hr : rgtW w = true) (h : Good w s) (hi : i < w.kids.length) (h1 : gt s (40 + i) = 1) (hk : (gt w.kids i).kind ≠ 12) : (finS w s i).1 = settleF (giveF (outsK w i) 1 (s.set (40 + i) 2)) w := by
  have hc := good_chk hr h
  have hrun : runsF w s i = true := runs_iff.2 ⟨by omega, by omega, by simpa using h1⟩
  rw [finS, if_neg (by omega), if_neg (by rw [hrun]; simpa using hk)]
  simp
theorem fx_fin {w : B} {s T : List Int} {P : List Nat} {i : Nat} (hr : rgtW w = true) (hw : Wb w) (h : Fx w s P T) (hi : i < w.kids.length) (hs : gt s (40 + i) = 1) (ht : gt T (40 + i) = 1) (hk : (gt w.kids i).kind ≠ 12) : Fx w s (i :: P) (finS w T i).1 := by
  rw [fin_eq hr h.toGood hi ht hk]
  exact fx_settleN hr hw _ (fx_done hr hw h hi hs ht)
theorem orders {w : B} {s : List Int} {a b : Nat} (hr : rgtW w = true) (hw : Wb w) (h : Run w s) (ha : a < w.kids.length) (hb : b < w.kids.length) (ha1 : gt s (40 + a) = 1) (hb1 : gt s (40 + b) = 1) (hka : (gt w.kids a).kind ≠ 12) (hkb : (gt w.kids b).kind ≠ 12) (hne : a ≠ b) :
    (finS w s a).2 = 0 ∧ (finS w s b).2 = 0 ∧ (finS w (finS w s a).1 b).2 = 0 ∧ (finS w (finS w s b).1 a).2 = 0 ∧ (finS w (finS w s a).1 b).1 = (finS w (finS w s b).1 a).1 := by
  have hk := hw.hk
  obtain ⟨a0, a1, a2, a3⟩ := fin_run hr hw h ha ha1 hka
  obtain ⟨b0, b1, b2, b3⟩ := fin_run hr hw h hb hb1 hkb
  have ab : gt (finS w s a).1 (40 + b) = 1 := by rw [a2.rn b (by omega) hb1 (by omega)]; exact hb1
  have ba : gt (finS w s b).1 (40 + a) = 1 := by rw [b2.rn a (by omega) ha1 (by omega)]; exact ha1
  obtain ⟨c0, c1, _, _⟩ := fin_run hr hw a1 hb ab hkb
  obtain ⟨d0, d1, _, _⟩ := fin_run hr hw b1 ha ba hka
  have f0 := fx_0 h.toInv
  have fa := fx_fin hr hw (fx_fin hr hw f0 ha ha1 ha1 hka) hb hb1 ab hkb
  have fb := fx_fin hr hw (fx_fin hr hw f0 hb hb1 hb1 hkb) ha ha1 ba hka
  exact ⟨a0, b0, c0, d0, fx_same hr hw fa fb (fun j => by simp [or_comm]) c1.no d1.no⟩
end Go.Eng
open Go Go.Proofs
namespace Go.Eng
set_option linter.unusedSimpArgs false
set_option linter.unusedVariables false
set_option maxRecDepth 10000
set_option maxHeartbeats 40000000
def twA (a b : Int) : A := .agg [.d (dI a), .d (dI b)]
attribute [go_sem] twA
theorem lawO0_ok (w : B) (ps : List Int) (x y : Int) (hp : ps.length < 4611686018427387904) (hr : rgtW w = false) : AFn env 4 [w.a, aF (ps.map iRow), twA x y] [] (aB true) [] := by
  have h00 := s00_len
  have cA : w.size ≤ 100000 → AFn env 7 [w.a] [] (.tup [sA s00, aI 4]) [] := fun h => by have := start19_ok w h; rwa [if_neg (by simp [hr]), if_neg (by simp [hr])] at this
  refine afn_body Tryd.func4 rfl (by decide) ?_
  simp only [Tryd.ntmps4, Tryd.results4, List.length_cons, List.length_nil, List.cons_append, List.nil_append, Nat.reduceAdd, Nat.reduceSub, List.replicate]
  repeat' first
  | ((with_reducible refine awp_seqQ ?_); intro _ _)
  | ((with_reducible refine awp_region ?_); refine zS ?_)
  | ((with_reducible refine Gd_nd ?_ ?_) <;> intro hb hb2 <;> first | contradiction | (exfalso; omega) | (refine zH hb2 ?_; try clear hb2))
  | ((with_reducible refine Gd_nb ?_ ?_) <;> intro hb <;> first | contradiction | refine zH hb ?_)
  | ((with_reducible refine AWP_c ?_); refine zcdT ?_)
  | ((with_reducible refine AWP_c ?_); refine zcdD ?_ ?_ <;> intro hb hb2 <;> first | contradiction | (exfalso; omega) | ((try refine zH hb2 ?_); try clear hb2))
  | ((with_reducible refine awp_skip ?_); try refine zS ?_)
  | ((with_reducible refine CallK_id ?_); refine zcF ?_; refine ⟨_, by first | exact skips_ok | exact cA (nl6 ‹_›) | fail, ?_⟩; refine ⟨fun _ => by (first | rfl | simp only [go_sem]; done), fun _ => by (first | rfl | simp only [go_sem]; done), by (first | rfl | (simp [okAs, okA, okCs, okC, okC_st, go_sem]; done)), ?_⟩; try refine zS ?_)
  | ((with_reducible refine CallK_id ?_); refine zcT [2] ?_; refine ⟨_, _, by first | exact large_ok w 600 1 (by decide) (by decide) (by decide) (by decide) | fail, ?_⟩; try refine zS ?_)
  | ((with_reducible refine awp_ret ?_); refine q_step (by assumption) ?_)
  | with_reducible refine fin_r ?_
  | ((with_reducible refine q_step (by assumption) ?_); try refine zS ?_)
  all_goals first | rfl | (exfalso; simp_all; done) | trace_state
theorem lawO1_ok (w : B) (ps : List Int) (x y : Int) (hp : ps.length < 4611686018427387904) (hr : rgtW w = true) : AFn env 4 [w.a, aF (ps.map iRow), twA x y] [] (aB true) [] := by
  have h00 := s00_len
  have h1 := startS_len w
  have cA : w.size ≤ 100000 → AFn env 7 [w.a] [] (.tup [sA (startS w), aI 0]) [] := fun h => by have := start19_ok w h; rwa [if_pos hr, if_pos hr] at this
  refine afn_body Tryd.func4 rfl (by decide) ?_
  simp only [Tryd.ntmps4, Tryd.results4, List.length_cons, List.length_nil, List.cons_append, List.nil_append, Nat.reduceAdd, Nat.reduceSub, List.replicate]
  repeat' first
  | ((with_reducible refine awp_seqQ ?_); intro _ _)
  | ((with_reducible refine awp_region ?_); refine zS ?_)
  | ((with_reducible refine Gd_nd ?_ ?_) <;> intro hb hb2 <;> first | contradiction | (exfalso; omega) | (refine zH hb2 ?_; try clear hb2))
  | ((with_reducible refine Gd_nb ?_ ?_) <;> intro hb <;> first | contradiction | refine zH hb ?_)
  | ((with_reducible refine AWP_c ?_); refine zcdT ?_)
  | ((with_reducible refine AWP_c ?_); refine zcdF ?_)
  | ((with_reducible refine AWP_c ?_); refine zcdD ?_ ?_ <;> intro hb hb2 <;> first | contradiction | (exfalso; omega) | ((try refine zH hb2 ?_); try clear hb2))
  | ((with_reducible refine awp_skip ?_); try refine zS ?_)
  | with_reducible refine awp_block ?_
  | ((with_reducible refine CallK_id ?_); refine zcF ?_; refine ⟨_, by first | exact skips_ok | exact cA (nl6 ‹_›) | fail, ?_⟩; refine ⟨fun _ => by (first | rfl | simp only [go_sem]; done), fun _ => by (first | rfl | simp only [go_sem]; done), by (first | rfl | (simp [okAs, okA, okCs, okC, okC_st, go_sem]; done)), ?_⟩; try refine zS ?_)
  | ((with_reducible refine CallK_id ?_); refine zcT [2] ?_; refine ⟨_, _, by first | exact large_ok w 600 1 (by decide) (by decide) (by decide) (by decide) | fail, ?_⟩; try refine zS ?_)
  | ((with_reducible refine awp_ret ?_); refine q_step (by assumption) ?_)
  | with_reducible refine fin_r ?_
  | ((with_reducible refine q_step (by assumption) ?_); try refine zS ?_)
  all_goals try rfl
  have hz := nl6 ‹(largeB w 600 1).1 = false›
  have hw := wb_of hz hr
  have hwk := hw.hk
  have hwl := hw.hl
  clear cA
  refine awp_loopT (fun z : Nat × List Int => z.1 ≤ ps.length ∧ Run w z.2) (fun z => ps.length - z.1) (fun z => [(44, .any), (46, .any), (54, aI z.1)]) (fun z => [some (.box w.bs), some (.box [.d (dI x), .d (dI y)]), some (.box [.d (dI (largeB w 600 1).2)]), Sb z.2]) (0, startS w) ⟨by simp, run_start hr hw⟩ (by exact zwl) ?_
  rintro ⟨j, s⟩ ⟨g1, g2⟩
  simp only at g1 g2
  have hl := g2.len
  have hc := good_chk hr g2.toGood
  have hre : runS w s = runL s (List.range' 0 w.kids.length) := by rw [runS, if_neg (by omega)]
  have hrl := runL_len s (List.range' 0 w.kids.length)
  have hrl : (runS w s).length ≤ w.kids.length := by rw [hre]; simpa using hrl
  have hpick : ∀ p : Int, 0 ≤ p → (runS w s).length ≠ 0 → ∃ m : Nat, gt (runS w s) (p.tmod (runS w s).length).toNat = m ∧ m < w.kids.length ∧ gt s (40 + m) = 1 ∧ 0 ≤ p.tmod (runS w s).length ∧ p.tmod (runS w s).length < (runS w s).length := fun p h0 h1 => by
    have ht := tmod_in (p := p) (n := (runS w s).length) h0 (by omega)
    have hin := run_in hc (j := (p.tmod (runS w s).length).toNat) (by omega)
    refine ⟨(gt (runS w s) (p.tmod (runS w s).length).toNat).toNat, by omega, by omega, hin.2.2, ht⟩
  refine zT ?_
  repeat' first
  | ((with_reducible refine awp_seqQ ?_); intro _ _)
  | ((with_reducible refine awp_region ?_); refine zS ?_)
  | ((with_reducible refine Gd_nd ?_ ?_) <;> intro hb hb2 <;> first | contradiction | (exfalso; omega) | (refine zH hb2 ?_; try clear hb2))
  | ((with_reducible refine AWP_c ?_); refine zcdT ?_)
  | ((with_reducible refine AWP_c ?_); refine zcdD ?_ ?_ <;> intro hb hb2 <;> first | contradiction | (exfalso; omega) | ((try refine zH hb2 ?_); try clear hb2))
  | ((with_reducible refine awp_skip ?_); try refine zS ?_)
  | with_reducible refine awp_block ?_
  | ((with_reducible refine awp_exit ?_); try refine zS ?_)
  | ((with_reducible refine CallK_id ?_); refine zcF ?_; refine ⟨_, by first | exact skips_ok | exact running_ok w s hz hl | fail, ?_⟩; refine ⟨fun _ => by (first | rfl | simp only [go_sem]; done), fun _ => by (first | rfl | simp only [go_sem]; done), by (first | rfl | (simp [okAs, okA, okCs, okC, okC_st, go_sem]; done)), ?_⟩; try refine zS ?_)
  | ((with_reducible refine awp_ret ?_); refine q_step (by assumption) ?_)
  | with_reducible refine fin_r ?_
  | ((with_reducible refine q_step (by assumption) ?_); try refine zS ?_)
  all_goals first
    | rfl
    | exact ⟨(j + 1, s), ⟨by simp only; omega, g2⟩, by simp only; omega, (by exact zwc 4)⟩
    | skip
  · obtain ⟨m, hm, hmk, hm1, ht0, ht1⟩ := hpick (gt ps j) (by omega) (by omega)
    have hne : ¬ ((runS w s).length : Int) = 0 := by omega
    clear hpick
    generalize hL : runS w s = L at *
    simp only [if_neg hne]
    refine zS ?_
    simp only [hm]
    have hfl := fin_len w s m hl
    repeat' first
    | ((with_reducible refine awp_seqQ ?_); intro _ _)
    | ((with_reducible refine awp_region ?_); refine zS ?_)
    | ((with_reducible refine AWP_c ?_); refine zcdN ?_ ?_ <;> intro hb hb2 <;> first | contradiction | (exfalso; omega) | ((try refine zH hb2 ?_); try clear hb2))
    | ((with_reducible refine AWP_c ?_); refine zcdD ?_ ?_ <;> intro hb hb2 <;> first | contradiction | (exfalso; omega) | ((try refine zH hb2 ?_); try clear hb2))
    | ((with_reducible refine awp_skip ?_); try refine zS ?_)
    | ((with_reducible refine CallK_id ?_); refine zcF ?_; refine ⟨_, by first | exact finish_ok w s m hz hl | fail, ?_⟩; refine ⟨fun _ => by (first | rfl | simp only [go_sem]; done), fun _ => by (first | rfl | simp only [go_sem]; done), by (first | rfl | (simp [okAs, okA, okCs, okC, okC_st, go_sem]; done)), ?_⟩; try refine zS ?_)
    | ((with_reducible refine awp_ret ?_); refine q_step (by assumption) ?_)
    | with_reducible refine fin_r ?_
    | ((with_reducible refine q_step (by assumption) ?_); try refine zS ?_)
    rotate_left
    · exact absurd (fin_run hr hw g2 hmk hm1 ‹_›).1 ‹_›
    focus
      have hcg := (fin_run hr hw g2 hmk hm1 ‹_›).2
      exact ⟨(j + 1, (finS w s m).1), ⟨by simp only; omega, hcg.1⟩, by simp only; omega, (by exact zwc 4)⟩
    have hk : (gt w.kids m).kind = 12 := ‹_›
    have hgo2 := gate_outs hr (by omega) hk (g2.gk m (by omega) hk hm1)
    have hne2 : ¬ ((gt w.kids m).conds.length : Int) = 0 := by omega
    obtain ⟨o, ho, ho1⟩ : ∃ o : Int, (gt ps j).tmod (gt w.kids m).conds.length = o ∧ 0 ≤ o ∧ o < (gt w.kids m).conds.length := ⟨_, rfl, tmod_in (by omega) hgo2.2⟩
    have hcg := cho_run hr hw g2 hmk hm1 hk ho1
    have hcl := cho_len w s m o hl
    refine awp_drawhA [false, false, false, false, true] (by rfl) (by simp only [go_sem, Bool.not_not, List.mem_singleton, forall_eq, ↓reduceIte, if_pos, rowsAt_map, wrap64, wrapu8, List.getElem?_cons_zero, List.getElem?_cons_succ, Int.reduceToNat, Nat.reduceAdd, Nat.reduceBEq, Bool.or_false, Bool.false_or, Bool.true_or, Nat.reduceSub, Nat.reduceMul, Int.reduceAdd, Int.reduceEq, Int.reduceLT, Int.reduceLE, Int.reduceNeg, Nat.reduceLT, Nat.reduceLeDiff, Nat.reduceEqDiff]; first | done | rfl | decide) ?_
    refine zT ?_
    refine zS ?_
    simp only [if_neg hne2, ho]
    refine zS ?_
    repeat' first
    | ((with_reducible refine awp_seqQ ?_); intro _ _)
    | ((with_reducible refine awp_region ?_); refine zS ?_)
    | ((with_reducible refine DStep_id ?_); refine zdP ?_; refine ⟨_, by first | exact choose_ok w s m o hz hl | fail, ?_⟩; refine ⟨fun _ => by (first | rfl | simp only [go_sem]; done), fun _ => by (first | rfl | simp only [go_sem]; done), by (first | rfl | (simp [okAs, okA, okCs, okC, okC_st, go_sem]; done)), (fun h => by first | (cases h; done) | (cases h; simp [go_sem, visA, visCs, visC]; done)), ?_⟩; try refine zS ?_)
    | ((with_reducible refine AWP_c ?_); refine zcdN ?_ ?_ <;> intro hb hb2 <;> first | contradiction | (exfalso; omega) | ((try refine zH hb2 ?_); try clear hb2))
    | ((with_reducible refine awp_skip ?_); try refine zS ?_)
    | ((with_reducible refine q_step (by assumption) ?_); try refine zS ?_)
    all_goals first
      | exact absurd hcg.1 ‹_›
      | exact ⟨(j + 1, (choS w s m o).1), ⟨by simp only; omega, hcg.2.1⟩, by simp only; omega, (by exact zwc 4)⟩
      | trace_state
  · obtain ⟨a, ha, hak, ha1, hx0, hx1⟩ := hpick x (by omega) (by omega)
    obtain ⟨b, hb, hbk, hb1, hy0, hy1⟩ := hpick y (by omega) (by omega)
    have hne : ¬ ((runS w s).length : Int) = 0 := by omega
    clear hpick
    generalize hL : runS w s = L at *
    simp only [if_neg hne]
    refine zS ?_
    simp only [ha]
    repeat' first
    | ((with_reducible refine awp_seqQ ?_); intro _ _)
    | ((with_reducible refine awp_region ?_); refine zS ?_)
    simp only [if_neg hne]
    refine zS ?_
    simp only [hb]
    have la := fin_len w s a hl
    have lb := fin_len w s b hl
    have lab := fin_len w _ b la
    have lba := fin_len w _ a lb
    repeat' first
    | ((with_reducible refine awp_seqQ ?_); intro _ _)
    | ((with_reducible refine awp_region ?_); refine zS ?_)
    | ((with_reducible refine Gd_nd ?_ ?_) <;> intro hb hb2 <;> first | contradiction | (exfalso; omega) | (refine zH hb2 ?_; try clear hb2))
    | ((with_reducible refine Gd_d ?_ ?_) <;> intro hb hb2 <;> first | contradiction | (exfalso; omega) | (refine zH hb2 ?_; try clear hb2))
    | ((with_reducible refine AWP_c ?_); refine zcdT ?_)
    | ((with_reducible refine AWP_c ?_); refine zcdD ?_ ?_ <;> intro hb hb2 <;> first | contradiction | (exfalso; omega) | ((try refine zH hb2 ?_); try clear hb2))
    | ((with_reducible refine awp_skip ?_); try refine zS ?_)
    | ((with_reducible refine CallK_id ?_); refine zcF ?_; refine ⟨_, by first | exact skips_ok | exact finish_ok w s a hz hl | exact finish_ok w s b hz hl | exact finish_ok w _ b hz la | exact finish_ok w _ a hz lb | fail, ?_⟩; refine ⟨fun _ => by (first | rfl | simp only [go_sem]; done), fun _ => by (first | rfl | simp only [go_sem]; done), by (first | rfl | (simp [okAs, okA, okCs, okC, okC_st, go_sem]; done)), ?_⟩; try refine zS ?_)
    | ((with_reducible refine awp_ret ?_); refine q_step (by assumption) ?_)
    | with_reducible refine fin_r ?_
    | ((with_reducible refine q_step (by assumption) ?_); try refine zS ?_)
    all_goals try rfl
    all_goals
      obtain ⟨o1, o2, o3, o4, o5⟩ := orders hr hw g2 hak hbk ha1 hb1 ‹¬ (gt w.kids a).kind = 12› ‹¬ (gt w.kids b).kind = 12› (by omega)
      first
        | exact absurd o1 ‹_›
        | exact absurd o2 ‹_›
        | exact absurd o3 ‹_›
        | exact absurd o4 ‹_›
        | exact absurd o5 ‹_›
        | trace_state
theorem lawO_ok (w : B) (ps : List Int) (x y : Int) (hp : ps.length < 4611686018427387904) : AFn env 4 [w.a, aF (ps.map iRow), twA x y] [] (aB true) [] := by
  cases hr : rgtW w with
  | false => exact lawO0_ok w ps x y hp hr
  | true => exact lawO1_ok w ps x y hp hr
end Go.Eng
open Go Go.Proofs Go.RowKit
namespace Go.Eng
set_option linter.unusedSimpArgs false
set_option linter.unusedVariables false
set_option maxRecDepth 100000
theorem okWide_array {P : Program} {w : World} {r : Reach} {base : Nat} {t : TypeId} {v : Value} {n : Nat} {e : TypeId} (ht : P.underlying t = some (.array n e)) (h : Value.okWide P w r base t v) : ∃ cs, v = .agg cs ∧ cs.size = P.cellsOf t := by
  simp only [Value.okWide, ht] at h
  obtain ⟨cs, h1, h2, _⟩ := h
  exact ⟨cs, h1, h2⟩
section
variable {H : Type} {enc : TypeId × Value → H} {W : World} {F : Nat → Prop} {base : Nat} {spare : Nat → Bool} {held : Bool}
theorem opD_Tw (n : Nat) : OpD enc Tryd.prog W F base spare held 50 (fun b : Int × Int => [dI b.1, dI b.2]) (fun _ => True) n := by
  intro cs x hx hw
  obtain ⟨xs, m', rfl, rfl, hl, hxl, hel⟩ := DataW.trod_array Tryd.underlying50 hx
  have hc : Tryd.prog.cellsOf 3 = 1 := by kernel_rfl
  have hcs : ∀ i, i < 2 → ∃ a, cs[i]? = some (.int .i64 a) := fun i hi => by
    have h := hel i hi
    obtain ⟨y, hy⟩ : ∃ y, xs[i]? = some y := ⟨xs[i]'(by omega), List.getElem?_eq_getElem _⟩
    rw [hc, Nat.mul_one, hy] at h
    obtain ⟨a, h1, _, _⟩ := DataW.trod_int Tryd.underlying3 h
    have := congrArg (fun l => l[0]?) h1
    exact ⟨a, by simpa [List.getElem?_take, List.getElem?_drop] using this⟩
  obtain ⟨a, ha⟩ := hcs 0 (by omega)
  obtain ⟨b, hb⟩ := hcs 1 (by omega)
  have hC : Tryd.prog.cellsOf 50 = 2 := by kernel_rfl
  refine ⟨(a, b), ⟨by simpa [hC] using hl, fun i d hd => ?_⟩, trivial⟩
  match i, hd with
  | 0, hd => cases hd; exact ⟨_, ha, .sc _ rfl⟩
  | 1, hd => cases hd; exact ⟨_, hb, .sc _ rfl⟩
end
theorem va_Tw {W : World} {b : Int × Int} {cs : Array Value} (h : RdL W (B0 W).x.F [dI b.1, dI b.2] cs.toList) : VA (B0 W).x (twA b.1 b.2) (.agg cs) := rd_agg h
end Go.Eng
