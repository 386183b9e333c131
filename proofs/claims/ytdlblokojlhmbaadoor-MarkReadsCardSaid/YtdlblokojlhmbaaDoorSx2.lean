import Derived.Test.YtdlblokojlhmbaaDoorSx0
namespace Go.Proofs.YtdlblokojlhmbaaDoor.Q
open Go.RowKit Go.Proofs.YtdlblokojlhmbaaDoorW.PrintWords Go.Proofs.YtdlblokojlhmbaaDoorW.PrintLast Go.Proofs.YtdlblokojlhmbaaDoorW.PrintMore
attribute [local go_sem] max2_int min2_int max_two min_two max_three min_three max_four min_four   -- for this text's walks alone
set_option linter.unusedVariables false
set_option linter.unusedSimpArgs false

def stringslite_HasPrefix.f (a0 : ByteArray) (a1 : ByteArray) : Option (Bool) := if (a0.size : Int) ≥ (a1.size : Int) then (if 0 ≤ (a1.size : Int) then (if (a1.size : Int) ≤ (a0.size : Int) then (some ((a0.extract 0 ((a1.size : Int) : Int).toNat).toList == a1.toList)) else (none)) else (none)) else (some false)
set_option maxHeartbeats 8000000 in
set_option maxRecDepth 100000 in
theorem stringslite_HasPrefix.calls (a0 : ByteArray) (a1 : ByteArray) (r : Bool) (w : World) (h : stringslite_HasPrefix.f a0 a1 = some r) :
  Calls Tryd.prog 56 #[.string a0, .string a1] w fun e w' => e = .returned (.bool r) ∧ Drawn0 w w' := by
 have H : (if (a0.size : Int) ≥ (a1.size : Int) then (if 0 ≤ (a1.size : Int) then (if (a1.size : Int) ≤ (a0.size : Int) then (some ((a0.extract 0 ((a1.size : Int) : Int).toNat).toList == a1.toList)) else (none)) else (none)) else (some false)) = some r := h
 clear h
 by_cases c3 : (a0.size : Int) ≥ (a1.size : Int)
 ·rw [if_pos c3] at H
  have c3b0 : decide ((a1.size : Int) ≤ (a0.size : Int)) = true := decide_eq_true c3
  have c3b1 : decide (a1.size ≤ a0.size) = true := decide_eq_true (Int.ofNat_le.mp c3)
  clear c3
  by_cases c4 : 0 ≤ (a1.size : Int)
  ·rw [if_pos c4] at H
   have c4b0 := eq_true c4
   have c4b1 : decide (0 ≤ (a1.size : Int)) = true := decide_eq_true c4
   clear c4
   by_cases c5 : (a1.size : Int) ≤ (a0.size : Int)
   ·rw [if_pos c5] at H
    have c5b0 := eq_true c5
    have c5b1 : decide ((a1.size : Int) ≤ (a0.size : Int)) = true := decide_eq_true c5
    clear c5
    obtain rfl := Option.some.inj H
    go_enter Tryd.func56, Tryd.ntmps56
    go_wp2
    go_ret
    exact ⟨by first | rfl | (simp; done) | (simp [*]; done), by repeat (first | exact Drawn0.refl _ | apply Drawn0.step)⟩
   ·rw [if_neg c5] at H
    exact absurd H (by simp)
  ·rw [if_neg c4] at H
   exact absurd H (by simp)
 ·rw [if_neg c3] at H
  have c3b0 : decide ((a1.size : Int) ≤ (a0.size : Int)) = false := decide_eq_false c3
  have c3b1 : decide (a1.size ≤ a0.size) = false := decide_eq_false (fun h => c3 (Int.ofNat_le.mpr h))
  clear c3
  obtain rfl := Option.some.inj H
  go_enter Tryd.func56, Tryd.ntmps56
  go_wp2
  go_ret
  exact ⟨by first | rfl | (simp; done) | (simp [*]; done), by repeat (first | exact Drawn0.refl _ | apply Drawn0.step)⟩

def stringslite_CutPrefix.f (a0 : ByteArray) (a1 : ByteArray) : Option (ByteArray × Bool) := (stringslite_HasPrefix.f a0 a1).bind fun t101 => (if t101 = true then (if 0 ≤ (a1.size : Int) then (if (a1.size : Int) ≤ (a0.size : Int) then (some (a0.extract ((a1.size : Int) : Int).toNat a0.size, true)) else (none)) else (none)) else (some (a0, false)))
set_option maxHeartbeats 8000000 in
set_option maxRecDepth 100000 in
theorem stringslite_CutPrefix.calls (a0 : ByteArray) (a1 : ByteArray) (r1 : ByteArray) (r2 : Bool) (w : World) (h : stringslite_CutPrefix.f a0 a1 = some (r1, r2)) :
  Calls Tryd.prog 49 #[.string a0, .string a1] w fun e w' => e = .returned (.tuple #[.string r1, .bool r2]) ∧ Drawn0 w w' := by
 have H : ((stringslite_HasPrefix.f a0 a1).bind fun t101 => (if t101 = true then (if 0 ≤ (a1.size : Int) then (if (a1.size : Int) ≤ (a0.size : Int) then (some (a0.extract ((a1.size : Int) : Int).toNat a0.size, true)) else (none)) else (none)) else (some (a0, false)))) = some (r1, r2) := h
 clear h
 replace H := Option.bind_eq_some_iff.mp H
 obtain ⟨t101, A30, H⟩ := H
 replace H : (if t101 = true then (if 0 ≤ (a1.size : Int) then (if (a1.size : Int) ≤ (a0.size : Int) then (some (a0.extract ((a1.size : Int) : Int).toNat a0.size, true)) else (none)) else (none)) else (some (a0, false))) = some (r1, r2) := H
 have A3 := Aside0.mk A30
 clear A30
 by_cases c4 : t101 = true
 ·subst c4
  have H1 : (if 0 ≤ (a1.size : Int) then (if (a1.size : Int) ≤ (a0.size : Int) then (some (a0.extract ((a1.size : Int) : Int).toNat a0.size, true)) else (none)) else (none)) = some (r1, r2) := by rw [if_pos rfl] at H; exact H
  clear H
  have H := H1
  clear H1
  by_cases c5 : 0 ≤ (a1.size : Int)
  ·rw [if_pos c5] at H
   have c5b0 := eq_true c5
   have c5b1 : decide (0 ≤ (a1.size : Int)) = true := decide_eq_true c5
   clear c5
   by_cases c6 : (a1.size : Int) ≤ (a0.size : Int)
   ·rw [if_pos c6] at H
    have c6b0 := eq_true c6
    have c6b1 : decide ((a1.size : Int) ≤ (a0.size : Int)) = true := decide_eq_true c6
    clear c6
    simp only [Option.some.injEq, Prod.mk.injEq] at H
    obtain ⟨rfl, rfl⟩ := H
    go_enter Tryd.func49, Tryd.ntmps49
    go_wp2_with (first | ((with_reducible refine gate_callee (f := 56) rfl ?_); refine goesL_ (some 8) rfl rfl Tryd.func56 (by kernel_rfl) rfl #[.string a0, .string a1] rfl (by (try simp only [List.map_toArray, List.map_cons, List.map_nil]); first | done | rfl | (simp only [List.length_drop, List.length_take]; rfl)) ?_; (with_reducible refine (stringslite_HasPrefix.calls a0 a1 true _ A3.out).mono ?_); rintro e w' ⟨rfl, ⟨nd, rfl⟩⟩; refine ⟨_, rfl, ?_⟩))
    go_ret2
    exact ⟨by first | rfl | (simp; done) | (simp [*]; done), by repeat (first | exact Drawn0.refl _ | apply Drawn0.step)⟩
   ·rw [if_neg c6] at H
    exact absurd H (by simp)
  ·rw [if_neg c5] at H
   exact absurd H (by simp)
 ·replace c4 := Bool.eq_false_iff.mpr c4
  subst c4
  have H1 : (some (a0, false)) = some (r1, r2) := by rw [if_neg (show ¬ (false = true) by decide)] at H; exact H
  clear H
  have H := H1
  clear H1
  simp only [Option.some.injEq, Prod.mk.injEq] at H
  obtain ⟨rfl, rfl⟩ := H
  go_enter Tryd.func49, Tryd.ntmps49
  go_wp2_with (first | ((with_reducible refine gate_callee (f := 56) rfl ?_); refine goesL_ (some 8) rfl rfl Tryd.func56 (by kernel_rfl) rfl #[.string a0, .string a1] rfl (by (try simp only [List.map_toArray, List.map_cons, List.map_nil]); first | done | rfl | (simp only [List.length_drop, List.length_take]; rfl)) ?_; (with_reducible refine (stringslite_HasPrefix.calls a0 a1 false _ A3.out).mono ?_); rintro e w' ⟨rfl, ⟨nd, rfl⟩⟩; refine ⟨_, rfl, ?_⟩))
  go_ret2
  exact ⟨by first | rfl | (simp; done) | (simp [*]; done), by repeat (first | exact Drawn0.refl _ | apply Drawn0.step)⟩

def strings_CutPrefix.f (a0 : ByteArray) (a1 : ByteArray) : Option (ByteArray × Bool) := (stringslite_CutPrefix.f a0 a1).bind fun bt102 => (some (bt102.1, bt102.2))
set_option maxHeartbeats 8000000 in
set_option maxRecDepth 100000 in
theorem strings_CutPrefix.calls (a0 : ByteArray) (a1 : ByteArray) (r1 : ByteArray) (r2 : Bool) (w : World) (h : strings_CutPrefix.f a0 a1 = some (r1, r2)) :
  Calls Tryd.prog 38 #[.string a0, .string a1] w fun e w' => e = .returned (.tuple #[.string r1, .bool r2]) ∧ Drawn0 w w' := by
 have H : ((stringslite_CutPrefix.f a0 a1).bind fun bt102 => (some (bt102.1, bt102.2))) = some (r1, r2) := h
 clear h
 replace H := Option.bind_eq_some_iff.mp H
 obtain ⟨⟨t102, t103⟩, A30, H⟩ := H
 replace H : (some (t102, t103)) = some (r1, r2) := H
 have A3 := Aside0.mk A30
 clear A30
 simp only [Option.some.injEq, Prod.mk.injEq] at H
 obtain ⟨rfl, rfl⟩ := H
 go_enter Tryd.func38, Tryd.ntmps38
 go_wp2_with (first | ((with_reducible refine gate_callee (f := 49) rfl ?_); refine goesL_ (some 8) rfl rfl Tryd.func49 (by kernel_rfl) rfl #[.string a0, .string a1] rfl (by (try simp only [List.map_toArray, List.map_cons, List.map_nil]); first | done | rfl | (simp only [List.length_drop, List.length_take]; rfl)) ?_; (with_reducible refine (stringslite_CutPrefix.calls a0 a1 t102 t103 _ A3.out).mono ?_); rintro e w' ⟨rfl, ⟨nd, rfl⟩⟩; refine ⟨_, rfl, ?_⟩))
 go_ret2
 exact ⟨by first | rfl | (simp; done) | (simp [*]; done), by repeat (first | exact Drawn0.refl _ | apply Drawn0.step)⟩

def mark_letter.f (a0 : Int) : Option (Bool) := if a0 ≥ 97 then (some (decide (a0 ≤ 122))) else (some false)
set_option maxHeartbeats 8000000 in
set_option maxRecDepth 100000 in
theorem mark_letter.calls (a0 : Int) (r : Bool) (w : World) (h : mark_letter.f a0 = some r) :
  Calls Tryd.prog 25 #[.int .u8 a0] w fun e w' => e = .returned (.bool r) ∧ Drawn0 w w' := by
 have H : (if a0 ≥ 97 then (some (decide (a0 ≤ 122))) else (some false)) = some r := h
 clear h
 by_cases c2 : a0 ≥ 97
 ·rw [if_pos c2] at H
  have c2b0 : decide (97 ≤ a0) = true := decide_eq_true c2
  clear c2
  obtain rfl := Option.some.inj H
  go_enter Tryd.func25, Tryd.ntmps25
  go_wp2
  go_ret
  exact ⟨by first | rfl | (simp; done) | (simp [*]; done), by repeat (first | exact Drawn0.refl _ | apply Drawn0.step)⟩
 ·rw [if_neg c2] at H
  have c2b0 : decide (97 ≤ a0) = false := decide_eq_false c2
  clear c2
  obtain rfl := Option.some.inj H
  go_enter Tryd.func25, Tryd.ntmps25
  go_wp2
  go_ret
  exact ⟨by first | rfl | (simp; done) | (simp [*]; done), by repeat (first | exact Drawn0.refl _ | apply Drawn0.step)⟩

def mark_part.f (a0 : Int) : Option (Bool) := (mark_letter.f a0).bind fun t104 => (if t104 = true then (some true) else (if a0 ≥ 48 then (if a0 ≤ 57 then (some true) else (some (a0 == 45))) else (some (a0 == 45))))
set_option maxHeartbeats 8000000 in
set_option maxRecDepth 100000 in
theorem mark_part.calls (a0 : Int) (r : Bool) (w : World) (h : mark_part.f a0 = some r) :
  Calls Tryd.prog 26 #[.int .u8 a0] w fun e w' => e = .returned (.bool r) ∧ Drawn0 w w' := by
 have H : ((mark_letter.f a0).bind fun t104 => (if t104 = true then (some true) else (if a0 ≥ 48 then (if a0 ≤ 57 then (some true) else (some (a0 == 45))) else (some (a0 == 45))))) = some r := h
 clear h
 replace H := Option.bind_eq_some_iff.mp H
 obtain ⟨t104, A20, H⟩ := H
 replace H : (if t104 = true then (some true) else (if a0 ≥ 48 then (if a0 ≤ 57 then (some true) else (some (a0 == 45))) else (some (a0 == 45)))) = some r := H
 have A2 := Aside0.mk A20
 clear A20
 by_cases c3 : t104 = true
 ·subst c3
  have H1 : (some true) = some r := by rw [if_pos rfl] at H; exact H
  clear H
  have H := H1
  clear H1
  obtain rfl := Option.some.inj H
  go_enter Tryd.func26, Tryd.ntmps26
  go_wp2_with (first | ((with_reducible refine gate_callee (f := 25) rfl ?_); refine goesL_ (some 4) rfl rfl Tryd.func25 (by kernel_rfl) rfl #[.int .u8 a0] rfl (by (try simp only [List.map_toArray, List.map_cons, List.map_nil]); first | done | rfl | (simp only [List.length_drop, List.length_take]; rfl)) ?_; (with_reducible refine (mark_letter.calls a0 true _ A2.out).mono ?_); rintro e w' ⟨rfl, ⟨nd, rfl⟩⟩; refine ⟨_, rfl, ?_⟩))
  go_ret
  exact ⟨by first | rfl | (simp; done) | (simp [*]; done), by repeat (first | exact Drawn0.refl _ | apply Drawn0.step)⟩
 ·replace c3 := Bool.eq_false_iff.mpr c3
  subst c3
  have H1 : (if a0 ≥ 48 then (if a0 ≤ 57 then (some true) else (some (a0 == 45))) else (some (a0 == 45))) = some r := by rw [if_neg (show ¬ (false = true) by decide)] at H; exact H
  clear H
  have H := H1
  clear H1
  by_cases c4 : a0 ≥ 48
  ·rw [if_pos c4] at H
   have c4b0 : decide (48 ≤ a0) = true := decide_eq_true c4
   clear c4
   by_cases c5 : a0 ≤ 57
   ·rw [if_pos c5] at H
    have c5b0 : decide (a0 ≤ 57) = true := decide_eq_true c5
    clear c5
    obtain rfl := Option.some.inj H
    go_enter Tryd.func26, Tryd.ntmps26
    go_wp2_with (first | ((with_reducible refine gate_callee (f := 25) rfl ?_); refine goesL_ (some 4) rfl rfl Tryd.func25 (by kernel_rfl) rfl #[.int .u8 a0] rfl (by (try simp only [List.map_toArray, List.map_cons, List.map_nil]); first | done | rfl | (simp only [List.length_drop, List.length_take]; rfl)) ?_; (with_reducible refine (mark_letter.calls a0 false _ A2.out).mono ?_); rintro e w' ⟨rfl, ⟨nd, rfl⟩⟩; refine ⟨_, rfl, ?_⟩))
    go_ret
    exact ⟨by first | rfl | (simp; done) | (simp [*]; done), by repeat (first | exact Drawn0.refl _ | apply Drawn0.step)⟩
   ·rw [if_neg c5] at H
    have c5b0 : decide (a0 ≤ 57) = false := decide_eq_false c5
    clear c5
    obtain rfl := Option.some.inj H
    go_enter Tryd.func26, Tryd.ntmps26
    go_wp2_with (first | ((with_reducible refine gate_callee (f := 25) rfl ?_); refine goesL_ (some 4) rfl rfl Tryd.func25 (by kernel_rfl) rfl #[.int .u8 a0] rfl (by (try simp only [List.map_toArray, List.map_cons, List.map_nil]); first | done | rfl | (simp only [List.length_drop, List.length_take]; rfl)) ?_; (with_reducible refine (mark_letter.calls a0 false _ A2.out).mono ?_); rintro e w' ⟨rfl, ⟨nd, rfl⟩⟩; refine ⟨_, rfl, ?_⟩))
    go_ret
    exact ⟨by first | rfl | (simp; done) | (simp [*]; done), by repeat (first | exact Drawn0.refl _ | apply Drawn0.step)⟩
  ·rw [if_neg c4] at H
   have c4b0 : decide (48 ≤ a0) = false := decide_eq_false c4
   clear c4
   obtain rfl := Option.some.inj H
   go_enter Tryd.func26, Tryd.ntmps26
   go_wp2_with (first | ((with_reducible refine gate_callee (f := 25) rfl ?_); refine goesL_ (some 4) rfl rfl Tryd.func25 (by kernel_rfl) rfl #[.int .u8 a0] rfl (by (try simp only [List.map_toArray, List.map_cons, List.map_nil]); first | done | rfl | (simp only [List.length_drop, List.length_take]; rfl)) ?_; (with_reducible refine (mark_letter.calls a0 false _ A2.out).mono ?_); rintro e w' ⟨rfl, ⟨nd, rfl⟩⟩; refine ⟨_, rfl, ?_⟩))
   go_ret
   exact ⟨by first | rfl | (simp; done) | (simp [*]; done), by repeat (first | exact Drawn0.refl _ | apply Drawn0.step)⟩

def mark_Name.lt (x : Int) : Bool := (mark_letter.f x).getD false
def mark_Name.pt (x : Int) : Bool := (mark_part.f x).getD false
theorem mark_Name.lt_some (x : Int) : mark_letter.f x = some (mark_Name.lt x) := by
 unfold mark_Name.lt mark_letter.f
 split <;> rfl
theorem mark_Name.pt_some (x : Int) : mark_part.f x = some (mark_Name.pt x) := by
 unfold mark_Name.pt mark_part.f
 rw [mark_Name.lt_some]
 simp only [Option.bind_some]
 repeat' split
 all_goals rfl
def mark_Name.lp (s : ByteArray) : Nat → Nat → Bool
 | 0, _ => true
 | d + 1, p => if p < s.size then (if 126 < bt s (p : Int) then false else if mark_Name.pt (bt s (p : Int)) = true then mark_Name.lp s d (p + 1) else false) else true
def mark_Name.f (a0 : ByteArray) : Option Bool := some (if a0.size = 0 then false else if 24 < a0.size then false else if mark_Name.lt (bt a0 0) = true then mark_Name.lp a0 a0.size 0 else false)
theorem mark_Name.iter_drew (w : World) (s : ByteArray) (p n : Nat) : (w.iter s p).drewN n = (w.drewN n).iter s p := rfl
set_option maxHeartbeats 8000000 in
set_option maxRecDepth 100000 in
theorem mark_Name.calls (a0 : ByteArray) (r : Bool) (w : World) (h : mark_Name.f a0 = some r) :
  Calls Tryd.prog 13 #[.string a0] w fun e w' => e = .returned (.bool r) ∧ Below w.heap.size w w' := by
 obtain rfl := Option.some.inj h
 clear h
 go_enter Tryd.func13, Tryd.ntmps13
 by_cases c0 : a0.size = 0
 ·rw [if_pos c0]
  obtain rfl : a0 = ⟨#[]⟩ := by
   obtain ⟨l⟩ := a0
   have : l = #[] := Array.eq_empty_of_size_eq_zero c0
   rw [this]
  go_wp2
  go_ret
  exact ⟨rfl, Below.refl _ _⟩
 rw [if_neg c0]
 have c0b0 : a0.toList.isEmpty = false := by
  cases hl : a0.toList with
  | nil =>
   rw [ByteArray.toList_eq] at hl
   exact absurd (show a0.size = 0 by rw [show a0.size = a0.data.toList.length from rfl, hl]; rfl) c0
  | cons x l => rfl
 by_cases c1 : 24 < a0.size
 ·rw [if_pos c1]
  have c1b0 : decide ((24 : Int) < (a0.size : Int)) = true := decide_eq_true (by omega)
  go_wp2
  go_ret
  exact ⟨rfl, Below.refl _ _⟩
 rw [if_neg c1]
 have c1b0 : decide ((24 : Int) < (a0.size : Int)) = false := decide_eq_false (by omega)
 have hx0 : ∀ h : 0 < a0.size, ((a0[0]'h).toNat : Int) = bt a0 0 := bt_at a0 0
 have q0 := eq_true (show 0 < a0.size by omega)
 by_cases c2 : mark_Name.lt (bt a0 0) = true
 ·rw [if_pos c2]
  have hl := mark_Name.lt_some (bt a0 0)
  rw [c2] at hl
  go_wp2_with (first | (go_at_call 25; (with_reducible refine (mark_letter.calls (bt a0 0) true _ hl).mono ?_); rintro e w' ⟨rfl, ⟨nd, rfl⟩⟩))
  go_loopg [4] (a0.size + 1) (fun kq v4 w' => ∃ (m p b : Nat), w' = (w.drewN m).iter a0 p ∧ Aside0 (mark_Name.lp a0 b p = mark_Name.lp a0 a0.size 0) ∧ Aside0 (a0.size ≤ p + b) ∧ Aside0 (a0.size + 1 ≤ p + kq))
  case atStart => exact ⟨_, 0, a0.size, rfl, ⟨rfl⟩, ⟨by omega⟩, ⟨by omega⟩⟩
  case round =>
   obtain ⟨m, p, b, rfl, HL, HB1, HK⟩ := hrel
   by_cases hp : p < a0.size
   ·obtain ⟨b, rfl⟩ : ∃ q, b = q + 1 := ⟨b - 1, by have := HB1.out; omega⟩
    obtain ⟨gk, rfl⟩ : ∃ q, gk = q + 1 := ⟨gk - 1, by have := HK.out; omega⟩
    have hl2 := HL.out
    simp only [mark_Name.lp] at hl2
    rw [if_pos hp] at hl2
    have hbr := bt_range a0 (p : Int)
    have hbt : ((a0[p]'hp).toNat : Int) = bt a0 (p : Int) := bt_at a0 (p : Int) hp
    by_cases hc : 126 < bt a0 (p : Int)
    ·rw [if_pos hc] at hl2
     obtain ⟨R, hR, hnx⟩ : ∃ R : Int, 126 < R ∧ ∀ ty, (Instr.next (.pointer (some ⟨w.heap.size, 0, none⟩)) true ty).run Tryd.prog ((w.drewN m).iter a0 p) = .ok (.tuple #[.bool true, .int .i64 (p : Int), .int .i32 R]) ((w.drewN m).iter a0 (p + (Utf8.decode a0 p).2)) := by
      refine ⟨((Utf8.decode a0 p).1 : Int), ?_, fun ty => run_next_any (w.drewN m) a0 p ty hp⟩
      by_cases ha : (a0[p]'hp).toNat < 128
      ·rw [decode_ascii a0 p hp ha]
       show 126 < (((a0[p]'hp).toNat : Nat) : Int)
       omega
      ·have := (decode_high a0 p hp (by omega)).1
       omega
     have hcb : decide (126 < R) = true := decide_eq_true hR
     go_wp2
     go_ret
     rw [← hl2]
     exact ⟨rfl, (Drawn0.below ⟨⟨_, rfl⟩⟩ : Below w.heap.size w (w.drewN m)).alloc (Nat.le_refl _) _⟩
    ·rw [if_neg hc] at hl2
     have hnx : ∀ ty, (Instr.next (.pointer (some ⟨w.heap.size, 0, none⟩)) true ty).run Tryd.prog ((w.drewN m).iter a0 p) = .ok (.tuple #[.bool true, .int .i64 (p : Int), .int .i32 (bt a0 (p : Int))]) ((w.drewN m).iter a0 (p + 1)) := fun ty => by
      rw [← hbt]
      exact run_next_ascii (w.drewN m) a0 p ty hp (by omega)
     have hcb : decide (126 < bt a0 (p : Int)) = false := decide_eq_false hc
     have hw8 : bt a0 (p : Int) % 256 = bt a0 (p : Int) := by omega
     have hq := mark_Name.pt_some (bt a0 (p : Int))
     by_cases hd : mark_Name.pt (bt a0 (p : Int)) = true
     ·rw [if_pos hd] at hl2
      rw [hd] at hq
      go_wp2_with (first | (go_at_call 26; (with_reducible refine (mark_part.calls (bt a0 (p : Int)) true _ hq).mono ?_); rintro e w' ⟨rfl, ⟨nd2, rfl⟩⟩))
      go_roundg gk
      case measure => omega
      case rel => exact ⟨m + nd2, p + 1, b, by rw [mark_Name.iter_drew, World.drewN_drewN], ⟨hl2⟩, ⟨by have := HB1.out; omega⟩, ⟨by have := HK.out; omega⟩⟩
     ·rw [if_neg hd] at hl2
      rw [Bool.not_eq_true] at hd
      rw [hd] at hq
      go_wp2_with (first | (go_at_call 26; (with_reducible refine (mark_part.calls (bt a0 (p : Int)) false _ hq).mono ?_); rintro e w' ⟨rfl, ⟨nd2, rfl⟩⟩))
      go_ret
      rw [← hl2]
      exact ⟨rfl, (Drawn0.below ⟨⟨_, World.drewN_drewN _ _ _⟩⟩ : Below w.heap.size w ((w.drewN m).drewN nd2)).alloc (Nat.le_refl _) _⟩
   ·have hl2 : mark_Name.lp a0 b p = true := by
     cases b with
     | zero => rfl
     | succ b => simp [mark_Name.lp, hp]
    rw [HL.out] at hl2
    have hnx : ∀ ty, (Instr.next (.pointer (some ⟨w.heap.size, 0, none⟩)) true ty).run Tryd.prog ((w.drewN m).iter a0 p) = .ok (.tuple #[.bool false]) ((w.drewN m).iter a0 p) := fun ty => run_next_end (w.drewN m) a0 p ty hp
    go_wp2
    go_ret
    rw [hl2]
    exact ⟨rfl, (Drawn0.below ⟨⟨_, rfl⟩⟩ : Below w.heap.size w (w.drewN m)).alloc (Nat.le_refl _) _⟩
 ·rw [if_neg c2]
  have hl := mark_Name.lt_some (bt a0 0)
  rw [Bool.not_eq_true] at c2
  rw [c2] at hl
  go_wp2_with (first | (go_at_call 25; (with_reducible refine (mark_letter.calls (bt a0 0) false _ hl).mono ?_); rintro e w' ⟨rfl, ⟨nd, rfl⟩⟩))
  go_ret
  exact ⟨rfl, Drawn0.below ⟨⟨_, rfl⟩⟩⟩

theorem gate_calls {P : Program} {f : FuncId} {args : Array Value} {w : World} {Q : Ending → World → Prop} (h : Calls P f args w Q) : Calls P f args w Q := h
def mark_cut.lp (p : Int → Bool) (s : ByteArray) : Nat → Nat → Nat
 | 0, n => n
 | d + 1, n => if n < s.size then (if p (bt s (n : Int)) = true then mark_cut.lp p s d (n + 1) else n) else n
theorem mark_cut.lp_le (p : Int → Bool) (s : ByteArray) : ∀ d n, n ≤ s.size → mark_cut.lp p s d n ≤ s.size
 | 0, n, h => h
 | d + 1, n, h => by
  simp only [mark_cut.lp]
  split
  ·split
   ·exact mark_cut.lp_le p s d (n + 1) (by omega)
   ·omega
  ·exact h
def mark_cut.at (p : Int → Bool) (s : ByteArray) : Option (ByteArray × ByteArray) := if s.size ≤ 9223372036854775807 then some (s.extract 0 (mark_cut.lp p s s.size 0), s.extract (mark_cut.lp p s s.size 0) s.size) else none
def mark_cut.letter (x : Int) : Bool := (mark_part.f x).getD false
theorem mark_cut.letter_some (x : Int) : mark_part.f x = some (mark_cut.letter x) := by
 unfold mark_cut.letter mark_part.f mark_letter.f
 by_cases h1 : x ≥ 97
 ·rw [if_pos h1]
  simp only [Option.bind_some]
  repeat' split
  all_goals rfl
 ·rw [if_neg h1]
  simp only [Option.bind_some]
  repeat' split
  all_goals rfl
def mark_cut.ne (c : Int) (x : Int) : Bool := x != c
def mark_cut_part.f (a0 : ByteArray) : Option (ByteArray × ByteArray) := mark_cut.at mark_cut.letter a0
def mark_cut_quote.f (a0 : ByteArray) : Option (ByteArray × ByteArray) := mark_cut.at (mark_cut.ne 34) a0
def mark_cut_less.f (a0 : ByteArray) : Option (ByteArray × ByteArray) := mark_cut.at (mark_cut.ne 60) a0
set_option maxHeartbeats 8000000 in
set_option maxRecDepth 100000 in
theorem mark_cut.at_part (p : Int → Bool) (hF : ∀ x w, Calls Tryd.prog 26 #[.int .u8 x] w fun e w' => e = .returned (.bool (p x)) ∧ Drawn0 w w') (a0 : ByteArray) (r1 r2 : ByteArray) (w : World) (h : mark_cut.at p a0 = some (r1, r2)) :
  Calls Tryd.prog 41 #[.string a0, .func (.func 26) #[] #[]] w fun e w' => e = .returned (.tuple #[.string r1, .string r2]) ∧ Drawn0 w w' := by
 unfold mark_cut.at at h
 by_cases hs : a0.size ≤ 9223372036854775807
 rotate_left
 ·rw [if_neg hs] at h
  exact absurd h (by simp)
 rw [if_pos hs] at h
 simp only [Option.some.injEq, Prod.mk.injEq] at h
 obtain ⟨rfl, rfl⟩ := h
 have hmf : ∀ (fn : Fn) (first cap : Array Value) (w : World), (Instr.makeFunc fn first cap).run Tryd.prog w = .ok (.func fn first cap) w := fun _ _ _ _ => rfl
 go_enter Tryd.func41, Tryd.ntmps41
 go_wp2
 go_loopg [6] (a0.size + 1) (fun kq v6 w' => ∃ (n b : Nat), v6 = .int .i64 (n : Int) ∧ Aside0 (mark_cut.lp p a0 b n = mark_cut.lp p a0 a0.size 0) ∧ Aside0 (a0.size ≤ n + b) ∧ Aside0 (a0.size + 1 ≤ n + kq) ∧ Aside0 (n ≤ a0.size) ∧ Drawn0 w w')
 case atStart => exact ⟨0, a0.size, rfl, ⟨rfl⟩, ⟨by omega⟩, ⟨by omega⟩, ⟨by omega⟩, by repeat (first | exact Drawn0.refl _ | apply Drawn0.step)⟩
 case round =>
  obtain ⟨n, b, rfl, HL, HB1, HK, HN, ⟨m, rfl⟩⟩ := hrel
  have hl2 := HL.out
  clear HL
  by_cases hp : n < a0.size
  ·obtain ⟨b, rfl⟩ : ∃ q, b = q + 1 := ⟨b - 1, by have := HB1.out; omega⟩
   obtain ⟨gk, rfl⟩ : ∃ q, gk = q + 1 := ⟨gk - 1, by have := HK.out; omega⟩
   simp only [mark_cut.lp] at hl2
   rw [if_pos hp] at hl2
   have c0 : decide ((n : Int) < (a0.size : Int)) = true := decide_eq_true (by omega)
   have hx : ∀ h : n < a0.size, ((a0[n]'h).toNat : Int) = bt a0 (n : Int) := fun h => bt_at a0 (n : Int) h
   have hp' := eq_true hp
   by_cases hc : p (bt a0 (n : Int)) = true
   ·rw [if_pos hc] at hl2
    have hq := hF (bt a0 (n : Int))
    rw [hc] at hq
    go_wp2_with (first | ((with_reducible refine gate_calls ?_); (with_reducible refine (hq _).mono ?_); rintro e w' ⟨rfl, ⟨nd2, rfl⟩⟩))
    go_roundg gk
    case measure => omega
    case rel => exact ⟨n + 1, b, by simp, ⟨hl2⟩, ⟨by have := HB1.out; omega⟩, ⟨by have := HK.out; omega⟩, ⟨by omega⟩, by repeat (first | exact Drawn0.refl _ | apply Drawn0.step)⟩
   ·rw [if_neg hc] at hl2
    have hq := hF (bt a0 (n : Int))
    rw [Bool.not_eq_true] at hc
    rw [hc] at hq
    have b1 : decide ((n : Int) ≤ (a0.size : Int)) = true := decide_eq_true (by omega)
    have b2 : decide (n ≤ a0.size) = true := decide_eq_true (by omega)
    have HL2 := Aside0.mk hl2
    clear hl2
    go_wp2_with (first | ((with_reducible refine gate_calls ?_); (with_reducible refine (hq _).mono ?_); rintro e w' ⟨rfl, ⟨nd2, rfl⟩⟩))
    go_quiet (fail)
    go_wp2
    go_ret2
    rw [← HL2.out]
    exact ⟨by first | rfl | (simp; done) | (simp [*]; done), by repeat (first | exact Drawn0.refl _ | apply Drawn0.step)⟩
  ·have hn : n = a0.size := by have := HN.out; omega
   have hl3 : mark_cut.lp p a0 b n = n := by
    cases b with
    | zero => rfl
    | succ b => simp [mark_cut.lp, hp]
   rw [hl2] at hl3
   have HL3 := Aside0.mk hl3
   clear hl2 hl3
   have HN2 := Aside0.mk hn
   clear hn
   have c0 : decide ((n : Int) < (a0.size : Int)) = false := decide_eq_false (by omega)
   have b1 : decide ((n : Int) ≤ (a0.size : Int)) = true := decide_eq_true (by have := HN2.out; omega)
   have b2 : decide (n ≤ a0.size) = true := decide_eq_true (by have := HN2.out; omega)
   have hle : n ≤ a0.size := by have := HN2.out; omega
   have hle2 : (n : Int) ≤ (a0.size : Int) := by omega
   go_wp2
   go_quiet (fail)
   go_wp2
   go_ret2
   rw [HL3.out]
   exact ⟨by first | rfl | (simp; done) | (simp [*]; done), by repeat (first | exact Drawn0.refl _ | apply Drawn0.step)⟩
theorem mark_cut_part.calls (a0 : ByteArray) (r1 r2 : ByteArray) (w : World) (h : mark_cut_part.f a0 = some (r1, r2)) :
  Calls Tryd.prog 41 #[.string a0, .func (.func 26) #[] #[]] w fun e w' => e = .returned (.tuple #[.string r1, .string r2]) ∧ Drawn0 w w' :=
 mark_cut.at_part mark_cut.letter (fun x w => mark_part.calls x _ w (mark_cut.letter_some x)) a0 r1 r2 w h
set_option maxRecDepth 100000 in
theorem mark_cut.clo_quote (x : Int) (w : World) : Calls Tryd.prog 57 #[.int .u8 x] w fun e w' => e = .returned (.bool (mark_cut.ne 34 x)) ∧ Drawn0 w w' := by
 go_enter Tryd.func57, Tryd.ntmps57
 go_wp2
 go_ret
 exact ⟨by first | rfl | (simp [mark_cut.ne]; done), by repeat (first | exact Drawn0.refl _ | apply Drawn0.step)⟩
set_option maxHeartbeats 8000000 in
set_option maxRecDepth 100000 in
theorem mark_cut.at_quote (p : Int → Bool) (hF : ∀ x w, Calls Tryd.prog 57 #[.int .u8 x] w fun e w' => e = .returned (.bool (p x)) ∧ Drawn0 w w') (a0 : ByteArray) (r1 r2 : ByteArray) (w : World) (h : mark_cut.at p a0 = some (r1, r2)) :
  Calls Tryd.prog 41 #[.string a0, .func (.func 57) #[] #[]] w fun e w' => e = .returned (.tuple #[.string r1, .string r2]) ∧ Drawn0 w w' := by
 unfold mark_cut.at at h
 by_cases hs : a0.size ≤ 9223372036854775807
 rotate_left
 ·rw [if_neg hs] at h
  exact absurd h (by simp)
 rw [if_pos hs] at h
 simp only [Option.some.injEq, Prod.mk.injEq] at h
 obtain ⟨rfl, rfl⟩ := h
 have hmf : ∀ (fn : Fn) (first cap : Array Value) (w : World), (Instr.makeFunc fn first cap).run Tryd.prog w = .ok (.func fn first cap) w := fun _ _ _ _ => rfl
 go_enter Tryd.func41, Tryd.ntmps41
 go_wp2
 go_loopg [6] (a0.size + 1) (fun kq v6 w' => ∃ (n b : Nat), v6 = .int .i64 (n : Int) ∧ Aside0 (mark_cut.lp p a0 b n = mark_cut.lp p a0 a0.size 0) ∧ Aside0 (a0.size ≤ n + b) ∧ Aside0 (a0.size + 1 ≤ n + kq) ∧ Aside0 (n ≤ a0.size) ∧ Drawn0 w w')
 case atStart => exact ⟨0, a0.size, rfl, ⟨rfl⟩, ⟨by omega⟩, ⟨by omega⟩, ⟨by omega⟩, by repeat (first | exact Drawn0.refl _ | apply Drawn0.step)⟩
 case round =>
  obtain ⟨n, b, rfl, HL, HB1, HK, HN, ⟨m, rfl⟩⟩ := hrel
  have hl2 := HL.out
  clear HL
  by_cases hp : n < a0.size
  ·obtain ⟨b, rfl⟩ : ∃ q, b = q + 1 := ⟨b - 1, by have := HB1.out; omega⟩
   obtain ⟨gk, rfl⟩ : ∃ q, gk = q + 1 := ⟨gk - 1, by have := HK.out; omega⟩
   simp only [mark_cut.lp] at hl2
   rw [if_pos hp] at hl2
   have c0 : decide ((n : Int) < (a0.size : Int)) = true := decide_eq_true (by omega)
   have hx : ∀ h : n < a0.size, ((a0[n]'h).toNat : Int) = bt a0 (n : Int) := fun h => bt_at a0 (n : Int) h
   have hp' := eq_true hp
   by_cases hc : p (bt a0 (n : Int)) = true
   ·rw [if_pos hc] at hl2
    have hq := hF (bt a0 (n : Int))
    rw [hc] at hq
    go_wp2_with (first | ((with_reducible refine gate_calls ?_); (with_reducible refine (hq _).mono ?_); rintro e w' ⟨rfl, ⟨nd2, rfl⟩⟩))
    go_roundg gk
    case measure => omega
    case rel => exact ⟨n + 1, b, by simp, ⟨hl2⟩, ⟨by have := HB1.out; omega⟩, ⟨by have := HK.out; omega⟩, ⟨by omega⟩, by repeat (first | exact Drawn0.refl _ | apply Drawn0.step)⟩
   ·rw [if_neg hc] at hl2
    have hq := hF (bt a0 (n : Int))
    rw [Bool.not_eq_true] at hc
    rw [hc] at hq
    have b1 : decide ((n : Int) ≤ (a0.size : Int)) = true := decide_eq_true (by omega)
    have b2 : decide (n ≤ a0.size) = true := decide_eq_true (by omega)
    have HL2 := Aside0.mk hl2
    clear hl2
    go_wp2_with (first | ((with_reducible refine gate_calls ?_); (with_reducible refine (hq _).mono ?_); rintro e w' ⟨rfl, ⟨nd2, rfl⟩⟩))
    go_quiet (fail)
    go_wp2
    go_ret2
    rw [← HL2.out]
    exact ⟨by first | rfl | (simp; done) | (simp [*]; done), by repeat (first | exact Drawn0.refl _ | apply Drawn0.step)⟩
  ·have hn : n = a0.size := by have := HN.out; omega
   have hl3 : mark_cut.lp p a0 b n = n := by
    cases b with
    | zero => rfl
    | succ b => simp [mark_cut.lp, hp]
   rw [hl2] at hl3
   have HL3 := Aside0.mk hl3
   clear hl2 hl3
   have HN2 := Aside0.mk hn
   clear hn
   have c0 : decide ((n : Int) < (a0.size : Int)) = false := decide_eq_false (by omega)
   have b1 : decide ((n : Int) ≤ (a0.size : Int)) = true := decide_eq_true (by have := HN2.out; omega)
   have b2 : decide (n ≤ a0.size) = true := decide_eq_true (by have := HN2.out; omega)
   have hle : n ≤ a0.size := by have := HN2.out; omega
   have hle2 : (n : Int) ≤ (a0.size : Int) := by omega
   go_wp2
   go_quiet (fail)
   go_wp2
   go_ret2
   rw [HL3.out]
   exact ⟨by first | rfl | (simp; done) | (simp [*]; done), by repeat (first | exact Drawn0.refl _ | apply Drawn0.step)⟩
theorem mark_cut_quote.calls (a0 : ByteArray) (r1 r2 : ByteArray) (w : World) (h : mark_cut_quote.f a0 = some (r1, r2)) :
  Calls Tryd.prog 41 #[.string a0, .func (.func 57) #[] #[]] w fun e w' => e = .returned (.tuple #[.string r1, .string r2]) ∧ Drawn0 w w' :=
 mark_cut.at_quote (mark_cut.ne 34) (fun x w => mark_cut.clo_quote x w) a0 r1 r2 w h
set_option maxRecDepth 100000 in
theorem mark_cut.clo_less (x : Int) (w : World) : Calls Tryd.prog 42 #[.int .u8 x] w fun e w' => e = .returned (.bool (mark_cut.ne 60 x)) ∧ Drawn0 w w' := by
 go_enter Tryd.func42, Tryd.ntmps42
 go_wp2
 go_ret
 exact ⟨by first | rfl | (simp [mark_cut.ne]; done), by repeat (first | exact Drawn0.refl _ | apply Drawn0.step)⟩
set_option maxHeartbeats 8000000 in
set_option maxRecDepth 100000 in
theorem mark_cut.at_less (p : Int → Bool) (hF : ∀ x w, Calls Tryd.prog 42 #[.int .u8 x] w fun e w' => e = .returned (.bool (p x)) ∧ Drawn0 w w') (a0 : ByteArray) (r1 r2 : ByteArray) (w : World) (h : mark_cut.at p a0 = some (r1, r2)) :
  Calls Tryd.prog 41 #[.string a0, .func (.func 42) #[] #[]] w fun e w' => e = .returned (.tuple #[.string r1, .string r2]) ∧ Drawn0 w w' := by
 unfold mark_cut.at at h
 by_cases hs : a0.size ≤ 9223372036854775807
 rotate_left
 ·rw [if_neg hs] at h
  exact absurd h (by simp)
 rw [if_pos hs] at h
 simp only [Option.some.injEq, Prod.mk.injEq] at h
 obtain ⟨rfl, rfl⟩ := h
 have hmf : ∀ (fn : Fn) (first cap : Array Value) (w : World), (Instr.makeFunc fn first cap).run Tryd.prog w = .ok (.func fn first cap) w := fun _ _ _ _ => rfl
 go_enter Tryd.func41, Tryd.ntmps41
 go_wp2
 go_loopg [6] (a0.size + 1) (fun kq v6 w' => ∃ (n b : Nat), v6 = .int .i64 (n : Int) ∧ Aside0 (mark_cut.lp p a0 b n = mark_cut.lp p a0 a0.size 0) ∧ Aside0 (a0.size ≤ n + b) ∧ Aside0 (a0.size + 1 ≤ n + kq) ∧ Aside0 (n ≤ a0.size) ∧ Drawn0 w w')
 case atStart => exact ⟨0, a0.size, rfl, ⟨rfl⟩, ⟨by omega⟩, ⟨by omega⟩, ⟨by omega⟩, by repeat (first | exact Drawn0.refl _ | apply Drawn0.step)⟩
 case round =>
  obtain ⟨n, b, rfl, HL, HB1, HK, HN, ⟨m, rfl⟩⟩ := hrel
  have hl2 := HL.out
  clear HL
  by_cases hp : n < a0.size
  ·obtain ⟨b, rfl⟩ : ∃ q, b = q + 1 := ⟨b - 1, by have := HB1.out; omega⟩
   obtain ⟨gk, rfl⟩ : ∃ q, gk = q + 1 := ⟨gk - 1, by have := HK.out; omega⟩
   simp only [mark_cut.lp] at hl2
   rw [if_pos hp] at hl2
   have c0 : decide ((n : Int) < (a0.size : Int)) = true := decide_eq_true (by omega)
   have hx : ∀ h : n < a0.size, ((a0[n]'h).toNat : Int) = bt a0 (n : Int) := fun h => bt_at a0 (n : Int) h
   have hp' := eq_true hp
   by_cases hc : p (bt a0 (n : Int)) = true
   ·rw [if_pos hc] at hl2
    have hq := hF (bt a0 (n : Int))
    rw [hc] at hq
    go_wp2_with (first | ((with_reducible refine gate_calls ?_); (with_reducible refine (hq _).mono ?_); rintro e w' ⟨rfl, ⟨nd2, rfl⟩⟩))
    go_roundg gk
    case measure => omega
    case rel => exact ⟨n + 1, b, by simp, ⟨hl2⟩, ⟨by have := HB1.out; omega⟩, ⟨by have := HK.out; omega⟩, ⟨by omega⟩, by repeat (first | exact Drawn0.refl _ | apply Drawn0.step)⟩
   ·rw [if_neg hc] at hl2
    have hq := hF (bt a0 (n : Int))
    rw [Bool.not_eq_true] at hc
    rw [hc] at hq
    have b1 : decide ((n : Int) ≤ (a0.size : Int)) = true := decide_eq_true (by omega)
    have b2 : decide (n ≤ a0.size) = true := decide_eq_true (by omega)
    have HL2 := Aside0.mk hl2
    clear hl2
    go_wp2_with (first | ((with_reducible refine gate_calls ?_); (with_reducible refine (hq _).mono ?_); rintro e w' ⟨rfl, ⟨nd2, rfl⟩⟩))
    go_quiet (fail)
    go_wp2
    go_ret2
    rw [← HL2.out]
    exact ⟨by first | rfl | (simp; done) | (simp [*]; done), by repeat (first | exact Drawn0.refl _ | apply Drawn0.step)⟩
  ·have hn : n = a0.size := by have := HN.out; omega
   have hl3 : mark_cut.lp p a0 b n = n := by
    cases b with
    | zero => rfl
    | succ b => simp [mark_cut.lp, hp]
   rw [hl2] at hl3
   have HL3 := Aside0.mk hl3
   clear hl2 hl3
   have HN2 := Aside0.mk hn
   clear hn
   have c0 : decide ((n : Int) < (a0.size : Int)) = false := decide_eq_false (by omega)
   have b1 : decide ((n : Int) ≤ (a0.size : Int)) = true := decide_eq_true (by have := HN2.out; omega)
   have b2 : decide (n ≤ a0.size) = true := decide_eq_true (by have := HN2.out; omega)
   have hle : n ≤ a0.size := by have := HN2.out; omega
   have hle2 : (n : Int) ≤ (a0.size : Int) := by omega
   go_wp2
   go_quiet (fail)
   go_wp2
   go_ret2
   rw [HL3.out]
   exact ⟨by first | rfl | (simp; done) | (simp [*]; done), by repeat (first | exact Drawn0.refl _ | apply Drawn0.step)⟩
theorem mark_cut_less.calls (a0 : ByteArray) (r1 r2 : ByteArray) (w : World) (h : mark_cut_less.f a0 = some (r1, r2)) :
  Calls Tryd.prog 41 #[.string a0, .func (.func 42) #[] #[]] w fun e w' => e = .returned (.tuple #[.string r1, .string r2]) ∧ Drawn0 w w' :=
 mark_cut.at_less (mark_cut.ne 60) (fun x w => mark_cut.clo_less x w) a0 r1 r2 w h

def mark_named.f (a0 : ByteArray) : Option (ByteArray × ByteArray × Bool) := (mark_cut_part.f a0).bind fun bt105 => ((mark_Name.f bt105.1).bind fun t107 => (some (bt105.1, bt105.2, t107)))
set_option maxHeartbeats 8000000 in
set_option maxRecDepth 100000 in
theorem mark_named.calls (a0 : ByteArray) (r1 : ByteArray) (r2 : ByteArray) (r3 : Bool) (w : World) (h : mark_named.f a0 = some (r1, r2, r3)) :
  Calls Tryd.prog 39 #[.string a0] w fun e w' => e = .returned (.tuple #[.string r1, .string r2, .bool r3]) ∧ Below w.heap.size w w' := by
 have HB := Aside0.mk (Below.refl w.heap.size w)
 have H : ((mark_cut_part.f a0).bind fun bt105 => ((mark_Name.f bt105.1).bind fun t107 => (some (bt105.1, bt105.2, t107)))) = some (r1, r2, r3) := h
 clear h
 replace H := Option.bind_eq_some_iff.mp H
 obtain ⟨⟨t105, t106⟩, A20, H⟩ := H
 replace H : ((mark_Name.f t105).bind fun t107 => (some (t105, t106, t107))) = some (r1, r2, r3) := H
 have A2 := Aside0.mk A20
 clear A20
 replace H := Option.bind_eq_some_iff.mp H
 obtain ⟨t107, A30, H⟩ := H
 replace H : (some (t105, t106, t107)) = some (r1, r2, r3) := H
 have A3 := Aside0.mk A30
 clear A30
 simp only [Option.some.injEq, Prod.mk.injEq] at H
 obtain ⟨rfl, rfl, rfl⟩ := H
 go_enter Tryd.func39, Tryd.ntmps39
 go_wp2_with (first | ((with_reducible refine gate_callee (f := 41) rfl ?_); refine goesL_ (some 9) rfl rfl Tryd.func41 (by kernel_rfl) rfl #[.string a0, .func (.func 26) #[] #[]] rfl (by (try simp only [List.map_toArray, List.map_cons, List.map_nil]); first | done | rfl | (simp only [List.length_drop, List.length_take]; rfl)) ?_; (with_reducible refine (mark_cut_part.calls a0 t105 t106 _ A2.out).mono ?_); rintro e w' ⟨rfl, ⟨nd, rfl⟩⟩; refine ⟨_, rfl, ?_⟩) | ((with_reducible refine gate_callee (f := 13) rfl ?_); refine goesL_ (some 15) rfl rfl Tryd.func13 (by kernel_rfl) rfl #[.string t105] rfl (by (try simp only [List.map_toArray, List.map_cons, List.map_nil]); first | done | rfl | (simp only [List.length_drop, List.length_take]; rfl)) ?_; (with_reducible refine (mark_Name.calls t105 t107 _ A3.out).mono ?_); rintro e w4 ⟨rfl, hb⟩; refine ⟨_, rfl, ?_⟩; have n0_ := Aside0.mk (below_step (by repeat (first | (with_reducible first | exact HB.out | apply bA | apply bN | apply bD) | exact HB.out)) hb); clear HB; have HB := n0_; clear n0_; (try clear hb); (try clear hb2); (try clear hk); (try clear hi)))
 go_ret3
 exact ⟨by first | rfl | (simp [errW_none, errW_some] <;> rfl) | (simp [*, errW_none, errW_some] <;> rfl), by repeat (first | (with_reducible first | exact HB.out | apply bA | apply bN | apply bD) | exact HB.out)⟩



end Go.Proofs.YtdlblokojlhmbaaDoor.Q
