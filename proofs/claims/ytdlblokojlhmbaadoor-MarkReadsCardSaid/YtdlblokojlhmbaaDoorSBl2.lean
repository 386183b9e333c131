/- strings.Builder as a text that grows: the relation that the walks carry, and how stores elsewhere leave it. -/
import Derived.Test.YtdlblokojlhmbaaDoorSBld
import Derived.Test.YtdlblokojlhmbaaDoorSShl
import Derived.Test.YtdlblokojlhmbaaDoorV0
set_option linter.unusedVariables false
set_option linter.unusedSimpArgs false
namespace Go.Proofs.YtdlblokojlhmbaaDoor.Bl2
open Go.RowKit Go.Proofs.YtdlblokojlhmbaaDoorW.PrintWords Go.Proofs.YtdlblokojlhmbaaDoorW.PrintLast Go.Proofs.YtdlblokojlhmbaaDoorW.PrintMore
def Bd (w : World) (B b : Nat) (x : ByteArray) : Prop := Lib.IsBuilder 66 5 B b (Lib.strCells x) w
theorem bld_is {w : World} {B b : Nat} {x : ByteArray} (h : Bd w B b x) : Lib.IsBuilder 66 5 B b (Lib.strCells x) w := h
theorem bld_fresh {w w1 : World} {b : Nat} (hb : w.heap.size ≤ b) (h : w1.heap[b]? = some (.cells #[.pointer none, .slice none 0 0] 66 (0, 0))) : Bd w1 w.heap.size b ⟨#[]⟩ :=
  Or.inl ⟨hb, .slice none 0 0, h, World.ownsRow_nil _ _ _ _, by simp [Value.ownBlock]⟩
theorem bldAt_grown {w w1 : World} {B b : Nat} {p : Value} {bs : List Value} (h : Lib.BuilderAt 66 5 B b p bs w) (hk : ∀ k, k < w.heap.size → (k = b ∨ ∃ v, w.heap[b]? = some (.cells #[p, v] 66 (0, 0)) ∧ v.ownBlock = some k) → w1.heap[k]? = w.heap[k]?) : Lib.BuilderAt 66 5 B b p bs w1 := by
  have hlt := h.lt
  obtain ⟨hB, v, hb, hown, hne⟩ := h
  refine ⟨hB, v, (hk b hlt (.inl rfl)).trans hb, own_move hown (fun k hv => hk k (own_lt hown k hv) (.inr ⟨v, hb, hv⟩)), hne⟩
theorem bld_below {w w1 : World} {B b : Nat} {x : ByteArray} (h : Bd w B b x) (hb : Below w.heap.size w w1) : Bd w1 B b x :=
  h.elim (fun h => .inl (bldAt_grown h (fun k hk _ => hb.block k hk))) (fun h => .inr (bldAt_grown h (fun k hk _ => hb.block k hk)))
theorem bld_drewN {w : World} {B b : Nat} {x : ByteArray} (h : Bd w B b x) (n : Nat) : Bd (w.drewN n) B b x :=
  h.elim (fun h => .inl (bldAt_grown h (fun _ _ _ => rfl))) (fun h => .inr (bldAt_grown h (fun _ _ _ => rfl)))
theorem bld_alloc {w : World} {B b : Nat} {x : ByteArray} (h : Bd w B b x) (o : Obj) : Bd (w.alloc o) B b x := bld_below h ((Below.refl _ _).alloc (Nat.le_refl _) o)
theorem bldAt_far {w : World} {B b g t : Nat} {p : Value} {bs : List Value} {cs : Array Value} (h : Lib.BuilderAt 66 5 B b p bs w) (hg : w.heap[g]? = some (.cells cs t (0, 0))) (i : Nat) (u : Value) (h66 : t ≠ 66) (h5 : t ≠ 5) : Lib.BuilderAt 66 5 B b p bs (w.setCell ⟨g, i, none⟩ u) := by
  refine bldAt_grown h (fun k hk hor => Below.heap_setCell _ _ _ _ ?_)
  obtain ⟨hB, v, hb, hown, hne⟩ := h
  rintro rfl
  rcases hor with rfl | ⟨v', hb', hv⟩
  · have := hb.symm.trans hg
    injection this with this
    injection this with _ this
    exact h66 this.symm
  · have e := hb.symm.trans hb'
    have e2 : v = v' := by simpa using e
    subst e2
    obtain ⟨cells, hc⟩ := own_typed hown _ hv
    have := hc.symm.trans hg
    injection this with this
    injection this with _ this
    exact h5 this.symm
theorem bld_far {w : World} {B b g t : Nat} {x : ByteArray} {cs : Array Value} (h : Bd w B b x) (hg : w.heap[g]? = some (.cells cs t (0, 0))) (i : Nat) (u : Value) (h66 : t ≠ 66) (h5 : t ≠ 5) : Bd (w.setCell ⟨g, i, none⟩ u) B b x :=
  h.elim (fun h => .inl (bldAt_far h hg i u h66 h5)) (fun h => .inr (bldAt_far h hg i u h66 h5))
theorem strCells_append (x y : ByteArray) : Lib.strCells x ++ Lib.strCells y = Lib.strCells (x ++ y) := by simp [Lib.strCells]
theorem bld_wrote {w : World} {B b : Nat} {x y : ByteArray} (h : Lib.BuilderAt 66 5 B b (.pointer (some ⟨b, 0, none⟩)) (Lib.strCells x ++ Lib.strCells y) w) : Bd w B b (x ++ y) := by
  rw [strCells_append] at h
  exact .inr h
/-- One byte as a text. -/
def one (c : Int) : ByteArray := ⟨#[UInt8.ofNat c.toNat]⟩
theorem one_cells (c : Int) (h0 : 0 ≤ c) (h1 : c < 256) : Lib.strCells (one c) = [.int .u8 c] := by
  have e : ((UInt8.ofNat c.toNat).toNat : Int) = c := by
    rw [UInt8.toNat_ofNat']
    omega
  show [Value.int .u8 ((UInt8.ofNat c.toNat).toNat : Int)] = _
  rw [e]
theorem bld_wrote1 {w : World} {B b : Nat} {x : ByteArray} {c : Int} (h0 : 0 ≤ c) (h1 : c < 256) (h : Lib.BuilderAt 66 5 B b (.pointer (some ⟨b, 0, none⟩)) (Lib.strCells x ++ [.int .u8 c]) w) : Bd w B b (x ++ one c) := by
  rw [← one_cells c h0 h1] at h
  exact bld_wrote h
theorem bld_string {w : World} {B b : Nat} {x : ByteArray} (h : Bd w B b x) (hB : B ≤ w.heap.size) : Calls Tryd.prog 33 #[.pointer (some ⟨b, 0, none⟩)] w fun e w' => e = .returned (.string x) ∧ Below B w w' := by
  refine (Shl.Tryd.Builder_String_any B b x.data.toList w h hB).mono ?_
  rintro e w' ⟨rfl, hb⟩
  exact ⟨by simp, hb⟩
theorem below_then2 {B : Nat} {w w1 w2 : World} (h : Below B w w1) (hB : B ≤ w1.heap.size) (k : Below B w1 w2) : Below B w w2 := h.trans k
/-- The call's own way to write a text, and a byte. -/
theorem write {w : World} {B b : Nat} {x : ByteArray} (h : Bd w B b x) (y : ByteArray) (hlen : x.size + y.size ≤ 140737488355328) (hBw : B ≤ w.heap.size) :
    Calls Tryd.prog 32 #[.pointer (some ⟨b, 0, none⟩), .string y] w fun e w' => e = .returned (.tuple #[.int .i64 y.size, .nilIface]) ∧ Bd w' B b (x ++ y) ∧ Below B w w' ∧ Bld.Others w w' := by
  refine (Bld.writeString B b (Lib.strCells x) y w (bld_is h) (by rw [Lib.strCells_length]; exact hlen) hBw).mono ?_
  rintro e w' ⟨rfl, h1, h2, h3⟩
  exact ⟨rfl, bld_wrote h1, h2, h3⟩
theorem write1 {w : World} {B b : Nat} {x : ByteArray} (h : Bd w B b x) (c : Int) (h0 : 0 ≤ c) (h1 : c < 256) (hlen : x.size + 1 ≤ 140737488355328) (hBw : B ≤ w.heap.size) :
    Calls Tryd.prog 31 #[.pointer (some ⟨b, 0, none⟩), .int .u8 c] w fun e w' => e = .returned .nilIface ∧ Bd w' B b (x ++ one c) ∧ Below B w w' ∧ Bld.Others w w' := by
  refine (Bld.writeByte B b (Lib.strCells x) c w (bld_is h) (by rw [Lib.strCells_length]; exact hlen) hBw).mono ?_
  rintro e w' ⟨rfl, h2, h3, h4⟩
  exact ⟨rfl, bld_wrote1 h0 h1 h2, h3, h4⟩
end Go.Proofs.YtdlblokojlhmbaaDoor.Bl2
