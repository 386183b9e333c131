/- The words of a machine on plain data, and that the program does what this machine does. -/
import Derived.Test.YtmamiagddgldkaaDoorEd
namespace Go.Eng
open Go.RowKit
set_option linter.unusedVariables false
set_option linter.unusedSimpArgs false

theorem dcallT {E : Env} {hd : Heap} {b : Bool} {T : List A} {H : Heap} {o : Oper} {K : A → Heap → Prop} (sel : List Nat) {f : FuncId} {args al : List A} {Hl : Heap} {fo : Operand} {as : Array Operand} {caps : List C}
    (ho : opIs o fo as) (hfo : ev E T fo = .c (.clo (.func f) caps)) (hargs : as.toList.map (ev E T) ++ caps.map .c = args) (hl : invAs sel args = some al) (hh : invH sel H sel = some Hl) (hc : chk sel H.length = true)
    (h : ∃ rl Hl', AFn E f al Hl rl Hl' ∧ K (renA (gl sel H.length) rl) (mrg (gl sel H.length) sel Hl' H)) : DStep E true hd true b T H o K := by
  obtain ⟨rl, Hl', hf, hk⟩ := h
  obtain ⟨h1, h2⟩ := invAs_ok H.length hl
  obtain ⟨h3, h4⟩ := invH_ok H.length hh
  obtain ⟨c1, c2⟩ := chk_ok hc
  have hlen : Hl.length = sel.length := by simpa using congrArg List.length h3
  refine ⟨_, _, callY sel hf ho hfo (by rw [h1, hargs]) c1 c2 hlen (fun k b hk => ?_) (by rw [hlen]; exact h2) (by rw [hlen]; exact h4), .inr (.inl rfl), hk⟩
  have h5 : (Hl.map (renB (gl sel H.length)))[k]? = some (renB (gl sel H.length) b) := by simp [hk]
  rw [h3, List.getElem?_map, Option.map_eq_some_iff] at h5
  obtain ⟨s, hs, he⟩ := h5
  have hg : gl sel H.length k = s := by simp only [gl, hs]
  rw [hg, ← he]
  have hlt := c2 s (List.mem_of_getElem? hs)
  simp [hB, List.getElem?_eq_getElem hlt]

theorem dcallPw {E : Env} {hd : Heap} {b : Bool} {T : List A} {H : Heap} {o : Oper} {K : A → Heap → Prop} {f : FuncId} {al : List A} {fo : Operand} {as : Array Operand}
    (ho : opIs o fo as) (hfo : ev E T fo = .c (.clo (.func f) [])) (hargs : as.toList.map (ev E T) = al)
    (h : ∃ rl, AFn E f al [] rl [] ∧ (∀ g, renA g rl = rl) ∧ (∀ g, renAs g al = al) ∧ okAs 0 al = true ∧ K rl H) : DStep E true hd true b T H o K := by
  obtain ⟨rl, hf, hr, ha, hoA, hk⟩ := h
  have := callY (E := E) (T := T) (H := H) [] hf ho hfo (caps := []) (by rw [ha]; simpa using hargs) (by simp) (by simp) rfl (by simp) hoA rfl
  rw [hr] at this
  exact ⟨rl, H, by simpa [mrg] using this, .inr (.inl rfl), hk⟩

def wrOpC : Op → Bool
  | .call { callee := .value _, .. } => true
  | o => wrOp o
theorem awp_drawnC {E : Env} {T : List A} {H : Heap} {Q : Exit → List A → Heap → Prop} {m id : Nat} {ops : Array Oper} (hrg : rgOk ops.toList (ops.toList.map fun o => wrOpC o.op) (ops.toList.map fun _ => false) = true)
    (h : COps E true [] (dsts ops.toList) ops.toList (ops.toList.map fun o => wrOpC o.op) (ops.toList.map fun _ => false) T H (Q .normal)) : AWP E (.region id ops true) T H Q m := awp_drawn _ hrg h
def memN : List Nat → Nat → Bool
  | [], _ => false
  | a :: l, n => (a == n) || memN l n
def wrOpW (fs : List Nat) : Op → Bool
  | .call { callee := .value (.func f), .. } => memN fs f
  | o => wrOp o
theorem awp_drawnW {E : Env} {T : List A} {H : Heap} {Q : Exit → List A → Heap → Prop} {m id : Nat} {ops : Array Oper} (fs : List Nat) (hrg : rgOk ops.toList (ops.toList.map fun o => wrOpW fs o.op) (ops.toList.map fun _ => false) = true)
    (h : COps E true [] (dsts ops.toList) ops.toList (ops.toList.map fun o => wrOpW fs o.op) (ops.toList.map fun _ => false) T H (Q .normal)) : AWP E (.region id ops true) T H Q m := awp_drawn _ hrg h
def wrOpF (fs : List Nat) : Op → Bool
  | .buildSlice .. => false
  | .call { callee := .value (.func f), .. } => memN fs f
  | o => wrOp o
def amOpF : Op → Bool
  | .fieldAddr .. => true
  | .store .. => true
  | _ => false
theorem awp_drawF {E : Env} {T : List A} {H : Heap} {Q : Exit → List A → Heap → Prop} {m id : Nat} {ops : Array Oper} (ms : List Bool) (fs : List Nat) (hrg : rgOk ops.toList (ops.toList.map fun o => wrOpF fs o.op) (ops.toList.map fun o => amOpF o.op) = true)
    (h : COps E false (hideH ms H) (dsts ops.toList) ops.toList (ops.toList.map fun o => wrOpF fs o.op) (ops.toList.map fun o => amOpF o.op) T H (Q .normal)) : AWP E (.region id ops true) T H Q m :=
  awp_drawh _ _ _ hrg (hideH_le ms H) h
attribute [go_sem] wrOpC wrOpW memN wrOpF amOpF true_or false_or LeH LeB
end Go.Eng
