/- Whatever the marks: those that have bytes, written one behind the other, are read as they were: the pure statement. -/
import Derived.Lib.Bytes
import Derived.Test.YtdlblokojlhmbaaDoorV0
import Derived.Test.YtdlblokojlhmbaaDoorSx0
import Derived.Test.YtdlblokojlhmbaaDoorSx2
import Derived.Test.YtdlblokojlhmbaaDoorSx3
import Derived.Test.YtdlblokojlhmbaaDoorSx4
import Derived.Test.YtdlblokojlhmbaaDoorSx5
import Derived.Test.YtdlblokojlhmbaaDoorSx9
import Derived.Test.YtdlblokojlhmbaaDoorSx10
import Derived.Test.YtdlblokojlhmbaaDoorSx12
import Derived.Test.YtdlblokojlhmbaaDoorSx13
import Derived.Test.YtdlblokojlhmbaaDoorSx16
import Derived.Test.YtdlblokojlhmbaaDoorSTabs
import Derived.Test.YtdlblokojlhmbaaDoorSBl2
import Derived.Test.YtdlblokojlhmbaaDoorSQk
set_option linter.unusedVariables false
set_option linter.unusedSimpArgs false
section
set_option linter.unusedVariables false
set_option linter.unusedSimpArgs false
namespace Go.Proofs.YtdlblokojlhmbaaDoor.BL
open Go.RowKit Go.Proofs.YtdlblokojlhmbaaDoorW.PrintWords
/-- Each is a byte. -/
def BL (l : List Int) : Prop := ∀ x ∈ l, 0 ≤ x ∧ x < 256
theorem BL.nil : BL [] := by simp [BL]
theorem BL.cons {x : Int} {l : List Int} (h : 0 ≤ x ∧ x < 256) (hl : BL l) : BL (x :: l) := by
  intro y hy
  rcases List.mem_cons.1 hy with rfl | hy
  · exact h
  · exact hl y hy
theorem BL.append {l m : List Int} (h : BL l) (k : BL m) : BL (l ++ m) := by
  intro y hy
  rcases List.mem_append.1 hy with hy | hy
  · exact h y hy
  · exact k y hy
theorem BL.take {l : List Int} (h : BL l) (n : Nat) : BL (l.take n) := fun x hx => h x (List.mem_of_mem_take hx)
theorem BL.drop {l : List Int} (h : BL l) (n : Nat) : BL (l.drop n) := fun x hx => h x (List.mem_of_mem_drop hx)
theorem BL.getD {l : List Int} (h : BL l) (n : Nat) : 0 ≤ l.getD n 0 ∧ l.getD n 0 < 256 := by
  rw [List.getD_eq_getElem?_getD]
  cases e : l[n]? with
  | none => simp
  | some x => exact h x (List.mem_of_getElem? e)
theorem bl_bytes (s : ByteArray) : BL (bytesOf s) := by
  intro x hx
  simp only [bytesOf, List.mem_map] at hx
  obtain ⟨b, _, rfl⟩ := hx
  have := b.toNat_lt
  omega
theorem str_bytes (s : ByteArray) : strOfNums (bytesOf s) = s := by
  apply ByteArray.ext
  apply Array.ext'
  rw [Go.strOfNums_data]
  simp only [bytesOf, List.map_map]
  conv => rhs; rw [← List.map_id s.data.toList]
  apply List.map_congr_left
  intro b _
  simp [Function.comp]
theorem bytes_str {l : List Int} (h : BL l) : bytesOf (strOfNums l) = l := by
  simp only [bytesOf, Go.strOfNums_data, List.map_map]
  conv => rhs; rw [← List.map_id l]
  apply List.map_congr_left
  intro x hx
  have := h x hx
  simp only [Function.comp, id]
  rw [UInt8.toNat_ofNat']
  omega
theorem size_str (l : List Int) : (strOfNums l).size = l.length := Go.strOfNums_size l
theorem data_append (a b : ByteArray) : (a ++ b).data.toList = a.data.toList ++ b.data.toList := by simp
theorem str_append (l m : List Int) : strOfNums l ++ strOfNums m = strOfNums (l ++ m) := by
  apply ByteArray.ext
  apply Array.ext'
  rw [data_append, Go.strOfNums_data, Go.strOfNums_data, Go.strOfNums_data, List.map_append]
theorem bt_bytes (s : ByteArray) (i : Int) : bt s i = (bytesOf s).getD i.toNat 0 := by
  unfold bt
  split
  · rename_i h
    have h' : i.toNat < (bytesOf s).length := by rw [bytesOf_length]; exact h
    rw [List.getD_eq_getElem?_getD, List.getElem?_eq_getElem h']
    simp only [bytesOf, List.getElem_map, Option.getD_some]
    rfl
  · rename_i h
    rw [List.getD_eq_getElem?_getD, List.getElem?_eq_none (by rw [bytesOf_length]; omega)]
    rfl
theorem bt_str {l : List Int} (h : BL l) (i : Int) : bt (strOfNums l) i = l.getD i.toNat 0 := by rw [bt_bytes, bytes_str h]
theorem extract_str (l : List Int) (i j : Nat) : (strOfNums l).extract i j = strOfNums ((l.take j).drop i) := by
  apply ByteArray.ext
  apply Array.ext'
  rw [ByteArray.data_extract, Array.toList_extract, List.extract_eq_take_drop, Go.strOfNums_data, Go.strOfNums_data, ← List.drop_take, List.map_drop, List.map_take]
theorem drop_str (l : List Int) (i : Nat) : (strOfNums l).extract i (strOfNums l).size = strOfNums (l.drop i) := by
  rw [extract_str, size_str, List.take_length]
theorem take_str (l : List Int) (j : Nat) : (strOfNums l).extract 0 j = strOfNums (l.take j) := by
  rw [extract_str, List.drop_zero]
theorem toList_eq (a b : ByteArray) : a.toList = b.toList ↔ a = b := by
  constructor
  · intro h
    rw [Go.Lib.toList_data, Go.Lib.toList_data] at h
    exact ByteArray.ext (Array.ext' h)
  · rintro rfl
    rfl
theorem str_inj {l m : List Int} (hl : BL l) (hm : BL m) : strOfNums l = strOfNums m ↔ l = m := by
  constructor
  · intro h
    rw [← bytes_str hl, h, bytes_str hm]
  · rintro rfl
    rfl
theorem toList_str {l m : List Int} (hl : BL l) (hm : BL m) : (strOfNums l).toList = (strOfNums m).toList ↔ l = m := by rw [toList_eq, str_inj hl hm]
theorem wrapS {x : Int} (h0 : -9223372036854775808 ≤ x) (h1 : x ≤ 9223372036854775807) : wrap64 x = x := by unfold wrap64; omega
end Go.Proofs.YtdlblokojlhmbaaDoor.BL
end
section
set_option linter.unusedVariables false
set_option linter.unusedSimpArgs false
namespace Go.Proofs.YtdlblokojlhmbaaDoor.MP
open Go.RowKit Go.Proofs.YtdlblokojlhmbaaDoorW.PrintWords Go.Proofs.YtdlblokojlhmbaaDoor.BL Go.Proofs.YtdlblokojlhmbaaDoor.Q
abbrev Tx := List Int
def letter (c : Int) : Bool := decide (97 ≤ c) && decide (c ≤ 122)
def part (c : Int) : Bool := letter c || (decide (48 ≤ c) && decide (c ≤ 57)) || decide (c = 45)
def plain (c : Int) : Bool := (decide (32 ≤ c) && decide (c ≤ 126)) || decide (c = 10)
def isName (l : Tx) : Bool := decide (l ≠ []) && decide (l.length ≤ 24) && letter (l.headD 0) && l.all part
def find (l : Tx) : Option (Int × Nat) :=
  if [38, 108, 116, 59].isPrefixOf l then some (60, 4) else if [38, 103, 116, 59].isPrefixOf l then some (62, 4)
  else if [38, 97, 109, 112, 59].isPrefixOf l then some (38, 5) else if [38, 113, 117, 111, 116, 59].isPrefixOf l then some (34, 6) else none
def mean : Tx → Nat → Option Tx
  | [], _ => some []
  | _ :: r, n + 1 => mean r n
  | c :: r, 0 => if plain c = true ∧ c ≠ 60 then (if c = 38 then (match find (c :: r) with
    | none => none
    | some x => (mean r (x.2 - 1)).map (x.1 :: ·)) else (mean r 0).map (c :: ·)) else none
def attr (l : Tx) : Option ((Tx × Tx) × Tx) :=
  if isName (l.takeWhile part) = true ∧ [61, 34].isPrefixOf (l.dropWhile part) = true then
    (match mean (((l.dropWhile part).drop 2).takeWhile (· != 34)) 0 with
    | none => none
    | some v => match ((l.dropWhile part).drop 2).dropWhile (· != 34) with
      | [] => none
      | _ :: t => some ((l.takeWhile part, v), t))
  else none
def attrs : Nat → Tx → Option (List (Tx × Tx) × Tx)
  | 0, l => some ([], l)
  | d + 1, l => if [32].isPrefixOf l = true then (match attr (l.drop 1) with
    | none => none
    | some x => (attrs d x.2).map fun y => (x.1 :: y.1, y.2)) else some ([], l)
def dup : List (Tx × Tx) → Bool
  | [] => false
  | a :: r => r.any (fun b => b.1 == a.1) || dup r
def opn (l : Tx) : Option (Tx × List (Tx × Tx) × Bool × Tx) :=
  if isName (l.takeWhile part) = true then
    (match attrs l.length (l.dropWhile part) with
    | none => none
    | some x => if x.1.length ≤ 64 ∧ dup x.1 = false then (if [47, 62].isPrefixOf x.2 = true then some (l.takeWhile part, x.1, true, x.2.drop 2) else if [62].isPrefixOf x.2 = true then some (l.takeWhile part, x.1, false, x.2.drop 1) else none) else none)
  else none
structure M where
  kind : Int
  at_ : Int
  name : Tx
  atts : List (Tx × Tx)
  text : Tx
deriving DecidableEq
def first (l : Tx) : Option (List M × Tx) :=
  if [60, 47].isPrefixOf l = true then (if isName ((l.drop 2).takeWhile part) = true ∧ [62].isPrefixOf ((l.drop 2).dropWhile part) = true then some ([⟨2, 0, (l.drop 2).takeWhile part, [], []⟩], ((l.drop 2).dropWhile part).drop 1) else none)
  else if [60].isPrefixOf l = true then (match opn (l.drop 1) with
    | none => none
    | some (n, ats, both, t) => some (⟨1, 0, n, ats, []⟩ :: (if both = true then [⟨2, 0, n, [], []⟩] else []), t))
  else (match mean (l.takeWhile (· != 60)) 0 with
    | none => none
    | some m => some ([⟨3, 0, [], [], m⟩], l.dropWhile (· != 60)))
def read : Nat → Tx → Int → Sum Int (List M)
  | _, [], _ => .inr []
  | 0, _ :: _, a => .inl a
  | d + 1, c :: l, a => match first (c :: l) with
    | none => .inl a
    | some x => match read d x.2 (a + ((l.length : Int) + 1 - (x.2.length : Int))) with
      | .inl e => .inl e
      | .inr r => .inr (x.1.map (fun m => { m with at_ := a }) ++ r)
/-! ### lists -/
theorem prefix_iff {p l : Tx} : p.isPrefixOf l = true ↔ l.take p.length = p := by
  rw [List.isPrefixOf_iff_prefix, List.prefix_iff_eq_take]
  exact ⟨fun h => h.symm, fun h => h.symm⟩
theorem prefix_len {p l : Tx} (h : p.isPrefixOf l = true) : p.length ≤ l.length := by
  rw [List.isPrefixOf_iff_prefix] at h
  exact h.length_le
theorem hasPrefix {l p : Tx} (hl : BL l) (hp : BL p) : stringslite_HasPrefix.f (strOfNums l) (strOfNums p) = some (p.isPrefixOf l) := by
  unfold stringslite_HasPrefix.f
  rw [size_str, size_str]
  by_cases h : (l.length : Int) ≥ (p.length : Int)
  · rw [if_pos h, if_pos (by omega), if_pos (by omega)]
    rw [show ((p.length : Int)).toNat = p.length from rfl, take_str]
    congr 1
    rw [Bool.eq_iff_iff, prefix_iff]
    simp only [beq_iff_eq]
    exact toList_str (hl.take _) hp
  · rw [if_neg h]
    congr 1
    symm
    rw [Bool.eq_false_iff]
    intro h'
    have := prefix_len h'
    omega
theorem hasPrefix' {l p : Tx} (hl : BL l) (hp : BL p) : strings_HasPrefix.f (strOfNums l) (strOfNums p) = some (p.isPrefixOf l) := by
  unfold strings_HasPrefix.f
  rw [hasPrefix hl hp]
  rfl
theorem cutPrefix {l p : Tx} (hl : BL l) (hp : BL p) : strings_CutPrefix.f (strOfNums l) (strOfNums p) = some (if p.isPrefixOf l = true then (strOfNums (l.drop p.length), true) else (strOfNums l, false)) := by
  unfold strings_CutPrefix.f stringslite_CutPrefix.f
  rw [hasPrefix hl hp]
  simp only [Option.bind_some]
  by_cases h : p.isPrefixOf l = true
  · have := prefix_len h
    rw [if_pos h, if_pos h, size_str, size_str, if_pos (by omega), if_pos (by omega)]
    simp only [Option.bind_some]
    rw [show ((p.length : Int)).toNat = p.length from rfl, ← size_str l, drop_str]
  · rw [if_neg h, if_neg h]
    rfl
theorem letter_f (c : Int) : mark_letter.f c = some (letter c) := by
  unfold mark_letter.f letter
  by_cases h : c ≥ 97
  · rw [if_pos h]
    simp [show (97 : Int) ≤ c from h]
  · rw [if_neg h]
    simp [show ¬ (97 : Int) ≤ c from h]
theorem part_f (c : Int) : mark_part.f c = some (part c) := by
  unfold mark_part.f part
  rw [letter_f]
  simp only [Option.bind_some]
  cases letter c with
  | true => simp
  | false =>
    by_cases h1 : c ≥ 48
    · rw [if_pos h1]
      by_cases h2 : c ≤ 57
      · simp [h2, show (48 : Int) ≤ c from h1]
      · simp [h2, show (48 : Int) ≤ c from h1]
        rw [Bool.eq_iff_iff]
        simp
    · rw [if_neg h1]
      simp [show ¬ (48 : Int) ≤ c from h1]
      rw [Bool.eq_iff_iff]
      simp
theorem plain_f (c : Int) : mark_plain.f c = some (plain c) := by
  unfold mark_plain.f plain
  by_cases h1 : c ≥ 32
  · rw [if_pos h1]
    by_cases h2 : c ≤ 126
    · simp [h2, show (32 : Int) ≤ c from h1]
    · simp [h2, show (32 : Int) ≤ c from h1]
      rw [Bool.eq_iff_iff]
      simp
  · rw [if_neg h1]
    simp [show ¬ (32 : Int) ≤ c from h1]
    rw [Bool.eq_iff_iff]
    simp
theorem part_le {c : Int} (h : part c = true) : c ≤ 126 := by
  simp only [part, letter, Bool.or_eq_true, Bool.and_eq_true, decide_eq_true_eq] at h
  omega
theorem getD_drop (l : Tx) (n : Nat) (h : n < l.length) : l.drop n = l.getD n 0 :: l.drop (n + 1) := by
  rw [List.drop_eq_getElem_cons h, List.getD_eq_getElem?_getD, List.getElem?_eq_getElem h]
  rfl
theorem name_lp {l : Tx} (hl : BL l) : ∀ d n, l.length ≤ n + d → mark_Name.lp (strOfNums l) d n = (l.drop n).all part
  | 0, n, h => by rw [List.drop_eq_nil_of_le (by omega)]; rfl
  | d + 1, n, h => by
    simp only [mark_Name.lp, size_str]
    by_cases hn : n < l.length
    · rw [if_pos hn, bt_str hl, show ((n : Int)).toNat = n from rfl, getD_drop l n hn, List.all_cons, name_lp hl d (n + 1) (by omega)]
      unfold mark_Name.pt
      rw [part_f]
      simp only [Option.getD_some]
      by_cases hp : part (l.getD n 0) = true
      · have := part_le hp
        rw [if_neg (by omega), if_pos hp, hp]
        simp
      · have hp' : part (l.getD n 0) = false := by simpa using hp
        rw [hp']
        simp
    · rw [if_neg hn, List.drop_eq_nil_of_le (by omega)]
      rfl
theorem name_f {l : Tx} (hl : BL l) : mark_Name.f (strOfNums l) = some (isName l) := by
  unfold mark_Name.f isName mark_Name.lt
  rw [letter_f]
  simp only [Option.getD_some, size_str]
  rw [name_lp hl _ 0 (by omega), List.drop_zero, bt_str hl]
  cases l with
  | nil => rfl
  | cons c r =>
    simp only [List.length_cons, List.headD_cons, List.getD_cons_zero, show (0 : Int).toNat = 0 from rfl]
    congr 1
    rw [if_neg (by omega)]
    by_cases h : 24 < r.length + 1
    · rw [if_pos h]
      simp [show ¬ (r.length + 1 ≤ 24) by omega]
    · rw [if_neg h]
      simp [show (r.length + 1 ≤ 24) by omega]
theorem cut_lp {l : Tx} (hl : BL l) (p : Int → Bool) : ∀ d n, l.length ≤ n + d → n ≤ l.length → mark_cut.lp p (strOfNums l) d n = n + ((l.drop n).takeWhile p).length
  | 0, n, h, h2 => by rw [List.drop_eq_nil_of_le (by omega)]; simp [mark_cut.lp]
  | d + 1, n, h, h2 => by
    simp only [mark_cut.lp, size_str]
    by_cases hn : n < l.length
    · rw [if_pos hn, bt_str hl, show ((n : Int)).toNat = n from rfl, getD_drop l n hn, List.takeWhile_cons]
      by_cases hp : p (l.getD n 0) = true
      · rw [if_pos hp, if_pos hp, cut_lp hl p d (n + 1) (by omega) (by omega), List.length_cons]
        omega
      · rw [if_neg hp, if_neg hp]
        simp
    · rw [if_neg hn, List.drop_eq_nil_of_le (by omega)]
      simp
theorem take_takeWhile (l : Tx) (p : Int → Bool) : l.take (l.takeWhile p).length = l.takeWhile p := by
  induction l with
  | nil => rfl
  | cons c r ih =>
    rw [List.takeWhile_cons]
    split
    · simp [ih]
    · simp
theorem drop_takeWhile (l : Tx) (p : Int → Bool) : l.drop (l.takeWhile p).length = l.dropWhile p := by
  induction l with
  | nil => rfl
  | cons c r ih =>
    rw [List.takeWhile_cons, List.dropWhile_cons]
    split
    · simp [ih]
    · simp
theorem cut_at {l : Tx} (hl : BL l) (p : Int → Bool) (hs : l.length ≤ 9223372036854775807) : mark_cut.at p (strOfNums l) = some (strOfNums (l.takeWhile p), strOfNums (l.dropWhile p)) := by
  unfold mark_cut.at
  rw [size_str, if_pos hs, cut_lp hl p _ 0 (by omega) (by omega), List.drop_zero, Nat.zero_add, take_str, take_takeWhile, ← size_str l, drop_str, drop_takeWhile]
theorem letter_part : mark_cut.letter = part := by
  funext c
  unfold mark_cut.letter
  rw [part_f]
  rfl
theorem BL.takeWhile {l : Tx} (h : BL l) (p : Int → Bool) : BL (l.takeWhile p) := by rw [← take_takeWhile]; exact h.take _
theorem BL.dropWhile {l : Tx} (h : BL l) (p : Int → Bool) : BL (l.dropWhile p) := by rw [← drop_takeWhile]; exact h.drop _
theorem named_f {l : Tx} (hl : BL l) (hs : l.length ≤ 9223372036854775807) : mark_named.f (strOfNums l) = some (strOfNums (l.takeWhile part), strOfNums (l.dropWhile part), isName (l.takeWhile part)) := by
  unfold mark_named.f mark_cut_part.f
  rw [cut_at hl _ hs, letter_part]
  simp only [Option.bind_some]
  rw [name_f (BL.takeWhile hl _)]
  rfl
end Go.Proofs.YtdlblokojlhmbaaDoor.MP
end
section
set_option linter.unusedVariables false
set_option linter.unusedSimpArgs false
namespace Go.Proofs.YtdlblokojlhmbaaDoor.MP
open Go.RowKit Go.Proofs.YtdlblokojlhmbaaDoorW.PrintWords Go.Proofs.YtdlblokojlhmbaaDoor.BL Go.Proofs.YtdlblokojlhmbaaDoor.Q
theorem mean_drop : ∀ (l : Tx) (n : Nat), mean l n = mean (l.drop n) 0
  | [], n => by simp [mean]
  | c :: r, 0 => by simp
  | c :: r, n + 1 => by
    rw [show mean (c :: r) (n + 1) = mean r n from rfl, mean_drop r n]
    rfl
theorem find_bound {l : Tx} {x : Int × Nat} (h : find l = some x) : 0 ≤ x.1 ∧ x.1 < 256 ∧ 1 ≤ x.2 ∧ x.2 ≤ l.length := by
  unfold find at h
  split at h
  · rename_i hp; have := prefix_len hp; obtain rfl := Option.some.inj h; simp at this ⊢; exact this
  split at h
  · rename_i hp; have := prefix_len hp; obtain rfl := Option.some.inj h; simp at this ⊢; exact this
  split at h
  · rename_i hp; have := prefix_len hp; obtain rfl := Option.some.inj h; simp at this ⊢; exact this
  split at h
  · rename_i hp; have := prefix_len hp; obtain rfl := Option.some.inj h; simp at this ⊢; exact this
  · simp at h
theorem plain_byte {c : Int} (h : plain c = true) : 0 ≤ c ∧ c < 256 := by
  simp only [plain, Bool.or_eq_true, Bool.and_eq_true, decide_eq_true_eq] at h
  omega
theorem mean_bl : ∀ (d : Nat) (l : Tx) (m : Tx), l.length ≤ d → mean l 0 = some m → BL m ∧ m.length ≤ l.length
  | d, [], m, _, h => by
    obtain rfl := Option.some.inj (show some [] = some m from h)
    exact ⟨BL.nil, by simp⟩
  | 0, c :: r, m, hd, h => by simp at hd
  | d + 1, c :: r, m, hd, h => by
    simp only [List.length_cons] at hd
    simp only [mean] at h
    split at h
    · rename_i hp
      split at h
      · rename_i hc
        cases hf : find (c :: r) with
        | none => rw [hf] at h; simp at h
        | some x =>
          rw [hf] at h
          simp only [Option.map_eq_some_iff] at h
          obtain ⟨m', h1, rfl⟩ := h
          rw [mean_drop] at h1
          have hb := find_bound hf
          have := mean_bl d (r.drop (x.2 - 1)) m' (by simp; omega) h1
          refine ⟨BL.cons ⟨hb.1, hb.2.1⟩ this.1, ?_⟩
          have h2 := this.2
          simp only [List.length_drop, List.length_cons] at *
          omega
      · simp only [Option.map_eq_some_iff] at h
        obtain ⟨m', h1, rfl⟩ := h
        have := mean_bl d r m' (by omega) h1
        refine ⟨BL.cons (plain_byte hp.1) this.1, ?_⟩
        have h2 := this.2
        simp only [List.length_cons]
        omega
    · simp at h
theorem one_str {c : Int} : Bl2.one c = strOfNums [c] := rfl
theorem hp_f {l : Tx} (hl : BL l) (n : Nat) (p : Tx) (hp : BL p) : mark_meant.hp (strOfNums l) (n : Int) (strOfNums p) = p.isPrefixOf (l.drop n) := by
  unfold mark_meant.hp
  rw [show ((n : Int)).toNat = n from rfl, drop_str, hasPrefix' (hl.drop _) hp]
  rfl
theorem bl_dec {l : Tx} (h : (l.all fun x => decide (0 ≤ x) && decide (x < 256)) = true) : BL l := by
  intro x hx
  have := List.all_eq_true.1 h x hx
  simpa using this
theorem at_f {l : Tx} (hl : BL l) (n : Nat) : mark_meant.at (strOfNums l) (n : Int) = (match find (l.drop n) with | none => -1 | some x => if x.1 = 60 then 0 else if x.1 = 62 then 1 else if x.1 = 38 then 2 else 3) := by
  unfold mark_meant.at
  have h0 := hp_f hl n [38, 108, 116, 59] (bl_dec rfl)
  have h1 := hp_f hl n [38, 103, 116, 59] (bl_dec rfl)
  have h2 := hp_f hl n [38, 97, 109, 112, 59] (bl_dec rfl)
  have h3 := hp_f hl n [38, 113, 117, 111, 116, 59] (bl_dec rfl)
  change mark_meant.hp (strOfNums l) (n : Int) (Tabs.txt 0) = _ at h0
  change mark_meant.hp (strOfNums l) (n : Int) (Tabs.txt 1) = _ at h1
  change mark_meant.hp (strOfNums l) (n : Int) (Tabs.txt 2) = _ at h2
  change mark_meant.hp (strOfNums l) (n : Int) (Tabs.txt 3) = _ at h3
  simp only [Tabs.ix]
  simp only [h0, h1, h2, h3]
  unfold find
  generalize [38, 108, 116, 59].isPrefixOf (l.drop n) = b0
  generalize [38, 103, 116, 59].isPrefixOf (l.drop n) = b1
  generalize [38, 97, 109, 112, 59].isPrefixOf (l.drop n) = b2
  generalize [38, 113, 117, 111, 116, 59].isPrefixOf (l.drop n) = b3
  cases b0 <;> cases b1 <;> cases b2 <;> cases b3 <;> rfl
theorem find_key {l : Tx} {x : Int × Nat} (h : find l = some x) : ∃ j : Nat, (if x.1 = 60 then (0 : Int) else if x.1 = 62 then 1 else if x.1 = 38 then 2 else 3) = (j : Int) ∧ Tabs.key j = x.1 ∧ (Tabs.txt j).size = x.2 := by
  unfold find at h
  split at h
  · obtain rfl := Option.some.inj h; exact ⟨0, rfl, rfl, rfl⟩
  split at h
  · obtain rfl := Option.some.inj h; exact ⟨1, rfl, rfl, rfl⟩
  split at h
  · obtain rfl := Option.some.inj h; exact ⟨2, rfl, rfl, rfl⟩
  split at h
  · obtain rfl := Option.some.inj h; exact ⟨3, rfl, rfl, rfl⟩
  · simp at h
/-- A result of meant's. -/
def meanR (o : Tx) : Option Tx → ByteArray × Bool
  | none => (⟨#[]⟩, false)
  | some m => (strOfNums (o ++ m), true)
theorem meant_l0 {l : Tx} (hl : BL l) (hs : l.length ≤ 140737488351232) : ∀ (d n : Nat) (o : Tx), n ≤ l.length → l.length - n ≤ d → o.length ≤ n → Ev (fun k => mark_meant.l0 k (strOfNums o) (strOfNums l) (n : Int)) (meanR o (mean (l.drop n) 0))
  | d, n, o, hn, hd, ho => by
    refine Ev.step (fun k => by rw [mark_meant.l0]) ?_
    by_cases h : n < l.length
    · have hc : ((n : Int) < ((strOfNums l).size : Int)) := by rw [size_str]; omega
      have hd0 : d ≠ 0 := by omega
      obtain ⟨d, rfl⟩ : ∃ e, d = e + 1 := ⟨d - 1, by omega⟩
      simp only [if_pos hc, if_pos (show 0 ≤ (n : Int) by omega), bt_str hl, show ((n : Int)).toNat = n from rfl, plain_f, Option.bind_some]
      rw [getD_drop l n h]
      simp only [mean]
      generalize hcc : l.getD n 0 = c
      cases hp : plain c with
      | false => simp only [Bool.false_eq_true, if_false, false_and]; exact Ev.now _
      | true =>
        simp only [if_true, true_and]
        by_cases h60 : c = 60
        · simp only [h60, if_true, ne_eq, not_true, if_false]
          exact Ev.now _
        · simp only [if_neg h60, ne_eq, h60, not_false_iff, if_true]
          by_cases h38 : c = 38
          · simp only [if_pos h38, at_f hl n, getD_drop l n h, hcc]
            cases hf : find (c :: l.drop (n + 1)) with
            | none => simp only [show (-1 : Int) < 0 by omega, if_true]; exact Ev.now _
            | some x =>
              obtain ⟨j, hj, hk, ht⟩ := find_key hf
              have hb := find_bound hf
              simp only [List.length_cons, List.length_drop] at hb
              simp only [hj]
              simp only [if_neg (show ¬ ((j : Int) < 0) by omega), show ((j : Int)).toNat = j from rfl, hk, ht, size_str, if_pos (show o.length + 1 ≤ 140737488355328 by omega), one_str, str_append]
              have e1 : wrap64 (wrap64 ((n : Int) + wrap64 ((x.2 : Int) - 1)) + 1) = ((n + x.2 : Nat) : Int) := by
                rw [wrapS (x := (x.2 : Int) - 1) (by omega) (by omega), wrapS (x := (n : Int) + ((x.2 : Int) - 1)) (by omega) (by omega), wrapS (by omega) (by omega)]
                omega
              simp only [e1]
              have := meant_l0 hl hs d (n + x.2) (o ++ [x.1]) (by omega) (by omega) (by simp; omega)
              rw [mean_drop (l.drop (n + 1)) (x.2 - 1), List.drop_drop, show n + 1 + (x.2 - 1) = n + x.2 by omega]
              cases hm : mean (l.drop (n + x.2)) 0 with
              | none => rw [hm] at this; exact this
              | some m => rw [hm] at this; simpa [meanR] using this
          · simp only [if_neg h38, size_str, if_pos (show o.length + 1 ≤ 140737488355328 by omega), one_str, str_append]
            simp only [wrapS (x := (n : Int) + 1) (by omega) (by omega)]
            have := meant_l0 hl hs d (n + 1) (o ++ [c]) (by omega) (by omega) (by simp; omega)
            cases hm : mean (l.drop (n + 1)) 0 with
            | none => rw [hm] at this; exact this
            | some m => rw [hm] at this; simpa [meanR] using this
    · have hc : ¬ ((n : Int) < ((strOfNums l).size : Int)) := by rw [size_str]; omega
      simp only [if_neg hc]
      rw [List.drop_eq_nil_of_le (by omega)]
      simp only [mean, meanR, List.append_nil]
      exact Ev.now _
termination_by d => d
theorem meant_f {l : Tx} (hl : BL l) (hs : l.length ≤ 140737488351232) : Ev (fun k => mark_meant.f k (strOfNums l)) (meanR [] (mean l 0)) := by
  have := meant_l0 hl hs l.length 0 [] (by omega) (by omega) (by simp)
  exact this
end Go.Proofs.YtdlblokojlhmbaaDoor.MP
end
section
set_option linter.unusedVariables false
set_option linter.unusedSimpArgs false
namespace Go.Proofs.YtdlblokojlhmbaaDoor.MP
open Go.RowKit Go.Proofs.YtdlblokojlhmbaaDoorW.PrintWords Go.Proofs.YtdlblokojlhmbaaDoor.BL Go.Proofs.YtdlblokojlhmbaaDoor.Q
theorem tw_len (l : Tx) (p : Int → Bool) : (l.takeWhile p).length + (l.dropWhile p).length = l.length := by
  rw [← List.length_append, List.takeWhile_append_dropWhile]
theorem ne_fun (c : Int) : mark_cut.ne c = fun x => x != c := rfl
def attrR : Option ((Tx × Tx) × Tx) → ByteArray × ByteArray × ByteArray × Bool
  | none => (⟨#[]⟩, ⟨#[]⟩, ⟨#[]⟩, false)
  | some x => (strOfNums x.1.1, strOfNums x.1.2, strOfNums x.2, true)
theorem attr_bl {l : Tx} (hl : BL l) {x : (Tx × Tx) × Tx} (h : attr l = some x) : BL x.1.1 ∧ BL x.1.2 ∧ BL x.2 ∧ x.2.length ≤ l.length := by
  unfold attr at h
  split at h
  · cases hm : mean (((l.dropWhile part).drop 2).takeWhile (· != 34)) 0 with
    | none => rw [hm] at h; simp at h
    | some v =>
      rw [hm] at h
      simp only at h
      cases hd : ((l.dropWhile part).drop 2).dropWhile (· != 34) with
      | nil => rw [hd] at h; simp at h
      | cons c t =>
        rw [hd] at h
        obtain rfl := Option.some.inj h
        have hb := BL.dropWhile ((BL.dropWhile hl part).drop 2) (· != 34)
        rw [hd] at hb
        refine ⟨BL.takeWhile hl _, (mean_bl _ _ _ (Nat.le_refl _) hm).1, fun y hy => hb y (List.mem_cons_of_mem _ hy), ?_⟩
        have h1 := tw_len ((l.dropWhile part).drop 2) (· != 34)
        rw [hd] at h1
        have h2 := tw_len l part
        simp only [List.length_cons, List.length_drop] at h1
        show t.length ≤ l.length
        omega
  · simp at h
theorem nil_toList {l : Tx} (hl : BL l) : (strOfNums l).toList = ([] : List UInt8) ↔ l = [] := by
  have h := toList_str hl BL.nil
  have e : (strOfNums []).toList = ([] : List UInt8) := by rw [Go.Lib.toList_data]; rfl
  rw [e] at h
  exact h
theorem attr_f {l : Tx} (hl : BL l) (hs : l.length ≤ 140737488351232) : Ev (fun k => mark_attr.f k (strOfNums l)) (attrR (attr l)) := by
  have hlen := tw_len l part
  have hr : BL (l.dropWhile part) := BL.dropWhile hl _
  have key : ∀ b : Bool, (b = false → [61, 34].isPrefixOf (l.dropWhile part) = true) → Ev (fun k => mark_attr.j0 k (strOfNums (l.dropWhile part)) (strOfNums (l.takeWhile part)) b) (attrR (if b = false then (match mean (((l.dropWhile part).drop 2).takeWhile (· != 34)) 0 with
    | none => none
    | some v => match ((l.dropWhile part).drop 2).dropWhile (· != 34) with
      | [] => none
      | _ :: t => some ((l.takeWhile part, v), t)) else none)) := by
    intro b hb
    refine Ev.step (fun k => by rw [mark_attr.j0]) ?_
    cases b with
    | true =>
      simp only [if_true, Bool.true_eq_false, if_false]
      exact Ev.now _
    | false =>
      have hp := prefix_len (hb rfl)
      simp only [List.length_cons, List.length_nil] at hp
      have h2 : (2 : Int) ≤ ((strOfNums (l.dropWhile part)).size : Int) := by rw [size_str]; omega
      simp only [Bool.false_eq_true, if_false, if_true, if_pos h2, drop_str]
      have hd : BL ((l.dropWhile part).drop 2) := hr.drop 2
      have hdl : ((l.dropWhile part).drop 2).length ≤ l.length := by simp; omega
      simp only [mark_cut_quote.f, cut_at hd (fun x => x != 34) (by omega), ne_fun, Option.bind_some]
      have hl1 := tw_len ((l.dropWhile part).drop 2) (· != 34)
      have hdw : BL (((l.dropWhile part).drop 2).dropWhile (· != 34)) := BL.dropWhile hd _
      refine Ev.bind (meant_f (BL.takeWhile hd (· != 34)) (by omega)) ?_
      cases mean (((l.dropWhile part).drop 2).takeWhile (· != 34)) 0 with
      | none => simp only [meanR, Bool.false_eq_true, if_false]; exact Ev.now _
      | some v =>
        simp only [meanR, if_true, nil_toList hdw, List.nil_append]
        cases ht : ((l.dropWhile part).drop 2).dropWhile (· != 34) with
        | nil => simp only [if_true]; exact Ev.now _
        | cons c t =>
          have h1 : (1 : Int) ≤ ((strOfNums (c :: t)).size : Int) := by rw [size_str]; simp; omega
          simp only [reduceCtorEq, if_false, if_pos h1, drop_str, List.drop_succ_cons, List.drop_zero, attrR]
          exact Ev.now _
  unfold mark_attr.f attr
  rw [named_f hl (by omega)]
  simp only [Option.bind_some]
  cases hn : isName (l.takeWhile part) with
  | false =>
    simp only [Bool.false_eq_true, if_false, false_and]
    have := key true (by simp)
    simpa using this
  | true =>
    have hpf := hasPrefix' hr (p := [61, 34]) (bl_dec rfl)
    change strings_HasPrefix.f _ (⟨#[61, 34]⟩ : ByteArray) = _ at hpf
    simp only [if_true, hpf, Option.bind_some, true_and]
    cases hb : [61, 34].isPrefixOf (l.dropWhile part) with
    | false =>
      have := key true (by simp)
      simpa using this
    | true =>
      have := key false (fun _ => hb)
      simp only [if_true] at this ⊢
      exact this
def toA (x : Tx × Tx) : S51 := ⟨strOfNums x.1, strOfNums x.2⟩
def toM (m : M) : S38 := ⟨m.kind, m.at_, strOfNums m.name, m.atts.map toA, strOfNums m.text⟩
/-! ### twice -/
theorem ix_any (p : S51 → Bool) (l : List S51) : ∀ d i, l.length ≤ i + d → (0 ≤ mark_twice.ix p l d i ↔ (l.drop i).any p = true)
  | 0, i, h => by rw [List.drop_eq_nil_of_le (by omega)]; simp [mark_twice.ix]
  | d + 1, i, h => by
    simp only [mark_twice.ix]
    by_cases hi : i < l.length
    · rw [if_pos hi, List.drop_eq_getElem_cons hi, List.any_cons]
      have e : rd_T51 l (i : Int) = l[i] := by
        unfold rd_T51
        rw [show ((i : Int)).toNat = i from rfl, List.getD_eq_getElem?_getD, List.getElem?_eq_getElem hi]
        rfl
      rw [e]
      by_cases hp : p l[i] = true
      · rw [if_pos hp, hp]
        simp
      · rw [if_neg hp, ix_any p l d (i + 1) (by omega)]
        simp [hp]
    · rw [if_neg hi, List.drop_eq_nil_of_le (by omega)]
      simp
theorem twice_lp {ats : List (Tx × Tx)} (hb : ∀ x ∈ ats, BL x.1) : ∀ d i, ats.length ≤ i + d → (mark_twice.lp (ats.map toA) d i = true ↔ ∃ j, i ≤ j ∧ j < ats.length ∧ ∃ q, q < j ∧ (ats.getD q ([], [])).1 = (ats.getD j ([], [])).1)
  | 0, i, h => by
    simp only [mark_twice.lp]
    constructor
    · intro h; simp at h
    · rintro ⟨j, h1, h2, _⟩; omega
  | d + 1, i, h => by
    simp only [mark_twice.lp, List.length_map]
    by_cases hi : i < ats.length
    · rw [if_pos hi]
      have hone : mark_twice.one (ats.map toA) i = true ↔ ∃ q, q < i ∧ (ats.getD q ([], [])).1 = (ats.getD i ([], [])).1 := by
        unfold mark_twice.one
        rw [decide_eq_true_iff, ix_any _ _ _ 0 (by omega), List.drop_zero, List.any_eq_true]
        have e : (rd_T51 (ats.map toA) (i : Int)) = toA (ats.getD i ([], [])) := by
          unfold rd_T51
          rw [show ((i : Int)).toNat = i from rfl, List.getD_eq_getElem?_getD, List.getD_eq_getElem?_getD, List.getElem?_map, List.getElem?_eq_getElem hi]
          rfl
        rw [e]
        have hget : ∀ q, q < ats.length → ats.getD q ([], []) ∈ ats := by
          intro q hq
          rw [List.getD_eq_getElem?_getD, List.getElem?_eq_getElem hq]
          exact List.getElem_mem hq
        constructor
        · rintro ⟨x, hx, hxe⟩
          obtain ⟨q, hq, rfl⟩ := List.mem_iff_getElem.1 hx
          simp only [List.length_take, List.length_map] at hq
          refine ⟨q, by omega, ?_⟩
          rw [List.getElem_take, List.getElem_map] at hxe
          simp only [beq_iff_eq, toA] at hxe
          have h3 := (toList_str (hb _ (hget i hi)) (hb _ (List.getElem_mem (by omega)))).1 hxe
          rw [List.getD_eq_getElem?_getD (l := ats) (i := q), List.getElem?_eq_getElem (by omega)]
          exact h3.symm
        · rintro ⟨q, hq, hqe⟩
          refine ⟨toA (ats.getD q ([], [])), ?_, ?_⟩
          · rw [List.getD_eq_getElem?_getD, List.getElem?_eq_getElem (by omega)]
            refine List.mem_iff_getElem.2 ⟨q, by simp; omega, ?_⟩
            rw [List.getElem_take, List.getElem_map]
            rfl
          · simp only [toA, hqe, beq_self_eq_true]
      by_cases ho : mark_twice.one (ats.map toA) i = true
      · rw [if_pos ho]
        obtain ⟨q, hq⟩ := hone.1 ho
        exact ⟨fun _ => ⟨i, Nat.le_refl _, hi, q, hq⟩, fun _ => rfl⟩
      · rw [if_neg ho, twice_lp hb d (i + 1) (by omega)]
        constructor
        · rintro ⟨j, h1, h2⟩; exact ⟨j, by omega, h2⟩
        · rintro ⟨j, h1, h2, h3⟩
          rcases Nat.eq_or_lt_of_le h1 with rfl | h1
          · exact absurd (hone.2 h3) ho
          · exact ⟨j, h1, h2, h3⟩
    · rw [if_neg hi]
      constructor
      · intro h; simp at h
      · rintro ⟨j, h1, h2, _⟩; omega
theorem dup_iff : ∀ (ats : List (Tx × Tx)), dup ats = true ↔ ∃ j, j < ats.length ∧ ∃ q, q < j ∧ (ats.getD q ([], [])).1 = (ats.getD j ([], [])).1
  | [] => by simp [dup]
  | a :: r => by
    simp only [dup, Bool.or_eq_true, List.any_eq_true, beq_iff_eq, dup_iff r]
    constructor
    · rintro (⟨b, hb, he⟩ | ⟨j, hj, q, hq, he⟩)
      · obtain ⟨j, hj, rfl⟩ := List.mem_iff_getElem.1 hb
        refine ⟨j + 1, by simp; omega, 0, by omega, ?_⟩
        rw [List.getD_cons_zero, List.getD_cons_succ, List.getD_eq_getElem?_getD, List.getElem?_eq_getElem hj]
        exact he.symm
      · exact ⟨j + 1, by simp; omega, q + 1, by omega, by simpa using he⟩
    · rintro ⟨j, hj, q, hq, he⟩
      obtain ⟨j, rfl⟩ : ∃ z, j = z + 1 := ⟨j - 1, by omega⟩
      simp only [List.length_cons] at hj
      cases q with
      | zero =>
        left
        rw [List.getD_cons_zero, List.getD_cons_succ, List.getD_eq_getElem?_getD, List.getElem?_eq_getElem (by omega)] at he
        exact ⟨_, List.getElem_mem (by omega), he.symm⟩
      | succ q => right; exact ⟨j, by omega, q, by omega, by simpa using he⟩
theorem twice_f {ats : List (Tx × Tx)} (hb : ∀ x ∈ ats, BL x.1) (hs : ats.length ≤ 9223372036854775807) : mark_twice.f (ats.map toA) = some (dup ats) := by
  unfold mark_twice.f
  rw [List.length_map, if_pos hs]
  congr 1
  rw [Bool.eq_iff_iff, twice_lp hb _ 0 (by omega), dup_iff]
  simp
end Go.Proofs.YtdlblokojlhmbaaDoor.MP
end
section
set_option linter.unusedVariables false
set_option linter.unusedSimpArgs false
namespace Go.Proofs.YtdlblokojlhmbaaDoor.MP
open Go.RowKit Go.Proofs.YtdlblokojlhmbaaDoorW.PrintWords Go.Proofs.YtdlblokojlhmbaaDoor.BL Go.Proofs.YtdlblokojlhmbaaDoor.Q
theorem cut1 {l : Tx} (hl : BL l) (p : Tx) (hp : BL p) (q : ByteArray) (hq : q = strOfNums p) : strings_CutPrefix.f (strOfNums l) q = some (if p.isPrefixOf l = true then (strOfNums (l.drop p.length), true) else (strOfNums l, false)) := by
  subst hq
  exact cutPrefix hl hp
abbrev OpenR := Int × Int × ByteArray × (List (S51)) × ByteArray × Bool × ByteArray × Bool
def okOf (r : OpenR) : Bool := r.2.2.2.2.2.2.2
/-- The end of an open mark. -/
theorem open_j2 {u : Tx} (hu : BL u) (b : Bool) (k1 k2 : Int) (nm : ByteArray) (ats : List S51) (tx : ByteArray) :
    Ev (fun k => mark_open.j2 k (strOfNums u) b k1 k2 nm ats tx) (if [47, 62].isPrefixOf u = true then (k1, k2, nm, ats, tx, true, strOfNums (u.drop 2), b) else if [62].isPrefixOf u = true then (k1, k2, nm, ats, tx, false, strOfNums (u.drop 1), b) else (k1, k2, nm, ats, tx, false, strOfNums u, false)) := by
  refine Ev.step (fun k => by rw [mark_open.j2]) ?_
  simp only [cut1 hu [47, 62] (bl_dec rfl) (⟨#[47, 62]⟩ : ByteArray) rfl, cut1 hu [62] (bl_dec rfl) (⟨#[62]⟩ : ByteArray) rfl, Option.bind_some]
  by_cases h1 : [47, 62].isPrefixOf u = true
  · simp only [if_pos h1, if_true]
    exact Ev.now _
  · simp only [if_neg h1, Bool.false_eq_true, if_false]
    by_cases h2 : [62].isPrefixOf u = true
    · simp only [if_pos h2]
      cases b <;> (simp only [if_true, Bool.false_eq_true, if_false]; exact Ev.now _)
    · simp only [if_neg h2]
      cases b <;> (simp only [if_true, Bool.false_eq_true, if_false]; exact Ev.now _)
theorem open_bad {u : Tx} (hu : BL u) (k1 k2 : Int) (nm : ByteArray) (ats : List S51) (tx : ByteArray) : ∃ r : OpenR, Ev (fun k => mark_open.l0 k (strOfNums u) false k1 k2 nm ats tx) r ∧ okOf r = false := by
  have h := open_j2 hu false k1 k2 nm ats tx
  have step : ∀ r : OpenR, Ev (fun k => mark_open.j2 k (strOfNums u) false k1 k2 nm ats tx) r → Ev (fun k => mark_open.l0 k (strOfNums u) false k1 k2 nm ats tx) r := by
    intro r hr
    refine Ev.step (fun k => by rw [mark_open.l0]) ?_
    simp only [Bool.false_eq_true, if_false]
    refine Ev.step (fun k => by rw [mark_open.j1]) ?_
    simp only [Bool.false_eq_true, if_false]
    exact hr
  refine ⟨_, step _ h, ?_⟩
  split
  · rfl
  · split <;> rfl
theorem open_end {u : Tx} (hu : BL u) {acc : List (Tx × Tx)} (hb : ∀ x ∈ acc, BL x.1) (hacc : acc.length ≤ 9223372036854775807) (hsp : [32].isPrefixOf u = false) (k1 k2 : Int) (nm : ByteArray) (tx : ByteArray) :
    (acc.length ≤ 64 ∧ dup acc = false ∧ [47, 62].isPrefixOf u = true ∧ Ev (fun k => mark_open.l0 k (strOfNums u) true k1 k2 nm (acc.map toA) tx) (k1, k2, nm, acc.map toA, tx, true, strOfNums (u.drop 2), true)) ∨
    (acc.length ≤ 64 ∧ dup acc = false ∧ [47, 62].isPrefixOf u = false ∧ [62].isPrefixOf u = true ∧ Ev (fun k => mark_open.l0 k (strOfNums u) true k1 k2 nm (acc.map toA) tx) (k1, k2, nm, acc.map toA, tx, false, strOfNums (u.drop 1), true)) ∨
    (¬ (acc.length ≤ 64 ∧ dup acc = false ∧ ([47, 62].isPrefixOf u = true ∨ [62].isPrefixOf u = true)) ∧ ∃ r : OpenR, Ev (fun k => mark_open.l0 k (strOfNums u) true k1 k2 nm (acc.map toA) tx) r ∧ okOf r = false) := by
  have hp := hasPrefix' hu (p := [32]) (bl_dec rfl)
  change strings_HasPrefix.f _ (⟨#[32]⟩ : ByteArray) = _ at hp
  rw [hsp] at hp
  have go : ∀ r : OpenR, Ev (fun k => mark_open.j1 k (strOfNums u) true k1 k2 nm (acc.map toA) tx) r → Ev (fun k => mark_open.l0 k (strOfNums u) true k1 k2 nm (acc.map toA) tx) r := by
    intro r hr
    refine Ev.step (fun k => by rw [mark_open.l0]) ?_
    simp only [if_true, hp, Option.bind_some, Bool.false_eq_true, if_false]
    exact hr
  have go1 : ∀ r : OpenR, Ev (fun k => mark_open.j2 k (strOfNums u) (decide (acc.length ≤ 64) && !dup acc) k1 k2 nm (acc.map toA) tx) r → Ev (fun k => mark_open.l0 k (strOfNums u) true k1 k2 nm (acc.map toA) tx) r := by
    intro r hr
    refine go r (Ev.step (fun k => by rw [mark_open.j1]) ?_)
    simp only [if_true, List.length_map]
    by_cases h64 : acc.length ≤ 64
    · simp only [if_pos (show (acc.length : Int) ≤ 64 by omega), twice_f hb hacc, Option.bind_some]
      simpa [h64] using hr
    · simp only [if_neg (show ¬ (acc.length : Int) ≤ 64 by omega)]
      simpa [h64] using hr
  have hj := fun b => open_j2 hu b k1 k2 nm (acc.map toA) tx
  by_cases hg : acc.length ≤ 64 ∧ dup acc = false
  · have hg' : (decide (acc.length ≤ 64) && !dup acc) = true := by simp [hg.1, hg.2]
    rw [hg'] at go1
    have hj1 := hj true
    by_cases h1 : [47, 62].isPrefixOf u = true
    · rw [if_pos h1] at hj1
      exact .inl ⟨hg.1, hg.2, h1, go1 _ hj1⟩
    · rw [if_neg h1] at hj1
      by_cases h2 : [62].isPrefixOf u = true
      · rw [if_pos h2] at hj1
        exact .inr (.inl ⟨hg.1, hg.2, Bool.eq_false_iff.2 h1, h2, go1 _ hj1⟩)
      · rw [if_neg h2] at hj1
        exact .inr (.inr ⟨fun h => h.2.2.elim h1 h2, _, go1 _ hj1, rfl⟩)
  · have hg' : (decide (acc.length ≤ 64) && !dup acc) = false := by
      rw [Bool.eq_false_iff]
      intro h
      simp at h
      exact hg h
    rw [hg'] at go1
    refine .inr (.inr ⟨fun h => hg ⟨h.1, h.2.1⟩, _, go1 _ (hj false), ?_⟩)
    split
    · rfl
    · split <;> rfl
/-- The attributes of an open mark, from a place on. -/
theorem open_l0 (k1 k2 : Int) (nm tx : ByteArray) : ∀ (d : Nat) (u : Tx) (acc : List (Tx × Tx)), BL u → u.length ≤ d → (∀ x ∈ acc, BL x.1) → u.length ≤ 140737488351232 → acc.length + d ≤ 4398046511103 →
    (match attrs d u with
    | none => ∃ r : OpenR, Ev (fun k => mark_open.l0 k (strOfNums u) true k1 k2 nm (acc.map toA) tx) r ∧ okOf r = false
    | some y => ((acc ++ y.1).length ≤ 64 ∧ dup (acc ++ y.1) = false ∧ [47, 62].isPrefixOf y.2 = true ∧ Ev (fun k => mark_open.l0 k (strOfNums u) true k1 k2 nm (acc.map toA) tx) (k1, k2, nm, (acc ++ y.1).map toA, tx, true, strOfNums (y.2.drop 2), true)) ∨
      ((acc ++ y.1).length ≤ 64 ∧ dup (acc ++ y.1) = false ∧ [47, 62].isPrefixOf y.2 = false ∧ [62].isPrefixOf y.2 = true ∧ Ev (fun k => mark_open.l0 k (strOfNums u) true k1 k2 nm (acc.map toA) tx) (k1, k2, nm, (acc ++ y.1).map toA, tx, false, strOfNums (y.2.drop 1), true)) ∨
      (¬ ((acc ++ y.1).length ≤ 64 ∧ dup (acc ++ y.1) = false ∧ ([47, 62].isPrefixOf y.2 = true ∨ [62].isPrefixOf y.2 = true)) ∧ ∃ r : OpenR, Ev (fun k => mark_open.l0 k (strOfNums u) true k1 k2 nm (acc.map toA) tx) r ∧ okOf r = false)) := by
  intro d
  induction d with
  | zero =>
    intro u acc hu hd hb hs ha
    have : u = [] := List.length_eq_zero_iff.1 (by omega)
    subst this
    have := open_end hu hb (by omega) rfl k1 k2 nm tx
    simpa [attrs] using this
  | succ d ih =>
    intro u acc hu hd hb hs ha
    simp only [attrs]
    by_cases h : [32].isPrefixOf u = true
    · rw [if_pos h]
      have hl := prefix_len h
      simp only [List.length_cons, List.length_nil] at hl
      have hp := hasPrefix' hu (p := [32]) (bl_dec rfl)
      change strings_HasPrefix.f _ (⟨#[32]⟩ : ByteArray) = _ at hp
      rw [h] at hp
      have h1 : (1 : Int) ≤ ((strOfNums u).size : Int) := by rw [size_str]; omega
      have hat := attr_f (hu.drop 1) (by simp; omega)
      have go : ∀ (w : ByteArray × ByteArray × ByteArray × Bool) (r : OpenR), Ev (fun k => mark_attr.f k (strOfNums (u.drop 1))) w → Ev (fun k => mark_open.l0 k w.2.2.1 w.2.2.2 k1 k2 nm (acc.map toA ++ [⟨w.1, w.2.1⟩]) tx) r → Ev (fun k => mark_open.l0 k (strOfNums u) true k1 k2 nm (acc.map toA) tx) r := by
        intro w r hw hr
        refine Ev.step (fun k => by rw [mark_open.l0]) ?_
        simp only [if_true, hp, Option.bind_some, if_pos h1, show (1 : Int).toNat = 1 from rfl, drop_str]
        refine Ev.bind hw ?_
        simp only [List.length_map, if_pos (show acc.length < 4398046511104 by omega)]
        exact hr
      cases hx : attr (u.drop 1) with
      | none =>
        rw [hx] at hat
        obtain ⟨r, hr, ho⟩ := open_bad (u := []) BL.nil k1 k2 nm (acc.map toA ++ [⟨⟨#[]⟩, ⟨#[]⟩⟩]) tx
        exact ⟨r, go _ r hat hr, ho⟩
      | some x =>
        rw [hx] at hat
        have hab := attr_bl (hu.drop 1) hx
        have hdl : (u.drop 1).length = u.length - 1 := by simp
        have := ih x.2 (acc ++ [x.1]) hab.2.2.1 (by omega) (by
          intro y hy
          rcases List.mem_append.1 hy with hy | hy
          · exact hb y hy
          · rw [List.mem_singleton.1 hy]; exact hab.1) (by omega) (by simp; omega)
        have e : (acc ++ [x.1]).map toA = acc.map toA ++ [⟨strOfNums x.1.1, strOfNums x.1.2⟩] := by simp [toA]
        cases hy : attrs d x.2 with
        | none =>
          rw [hy] at this
          obtain ⟨r, hr, ho⟩ := this
          rw [e] at hr
          simp only [hy, Option.map_none]
          exact ⟨r, go _ r hat hr, ho⟩
        | some y =>
          rw [hy] at this
          simp only [hy, Option.map_some]
          simp only [List.append_assoc, List.singleton_append] at this
          rw [e] at this
          rcases this with ⟨a1, a2, a3, a4⟩ | ⟨a1, a2, a3, a4, a5⟩ | ⟨a1, r, a2, a3⟩
          · exact .inl ⟨a1, a2, a3, go _ _ hat a4⟩
          · exact .inr (.inl ⟨a1, a2, a3, a4, go _ _ hat a5⟩)
          · exact .inr (.inr ⟨a1, r, go _ _ hat a2, a3⟩)
    · rw [if_neg h]
      have := open_end hu hb (by omega) (Bool.eq_false_iff.2 h) k1 k2 nm tx
      simpa using this
theorem open_f {l : Tx} (hl : BL l) (hs : l.length ≤ 1000000) : match opn l with
    | none => ∃ r : OpenR, Ev (fun k => mark_open.f k (strOfNums l)) r ∧ okOf r = false
    | some y => Ev (fun k => mark_open.f k (strOfNums l)) (1, 0, strOfNums y.1, y.2.1.map toA, ⟨#[]⟩, y.2.2.1, strOfNums y.2.2.2, true) := by
  have hr : BL (l.dropWhile part) := BL.dropWhile hl _
  have hlen := tw_len l part
  unfold opn
  cases hn : isName (l.takeWhile part) with
  | false =>
    simp only [Bool.false_eq_true, if_false]
    obtain ⟨r, h, ho⟩ := open_bad hr 1 0 (strOfNums (l.takeWhile part)) [] ⟨#[]⟩
    refine ⟨r, ?_, ho⟩
    unfold mark_open.f
    rw [named_f hl (by omega)]
    simp only [Option.bind_some, hn]
    exact h
  | true =>
    simp only [if_true]
    have := open_l0 1 0 (strOfNums (l.takeWhile part)) ⟨#[]⟩ l.length (l.dropWhile part) [] hr (by omega) (by simp) (by omega) (by simp; omega)
    have e : ∀ k, mark_open.f k (strOfNums l) = mark_open.l0 k (strOfNums (l.dropWhile part)) true 1 0 (strOfNums (l.takeWhile part)) (([] : List (Tx × Tx)).map toA) ⟨#[]⟩ := by
      intro k
      unfold mark_open.f
      rw [named_f hl (by omega)]
      simp only [Option.bind_some, hn]
      rfl
    simp only [e]
    cases hx : attrs l.length (l.dropWhile part) with
    | none => rw [hx] at this; exact this
    | some y =>
      rw [hx] at this
      simp only [List.nil_append] at this
      rcases this with ⟨a1, a2, a3, a4⟩ | ⟨a1, a2, a3, a4, a5⟩ | ⟨a1, r, a2, a3⟩
      · simp only [a1, a2, a3, and_self, if_true]
        exact a4
      · simp only [a1, a2, a3, a4, and_self, if_true, Bool.false_eq_true, if_false]
        exact a5
      · by_cases h1 : y.1.length ≤ 64 ∧ dup y.1 = false
        · have h2 : [47, 62].isPrefixOf y.2 = false := by
            rw [Bool.eq_false_iff]; intro h; exact a1 ⟨h1.1, h1.2, .inl h⟩
          have h3 : [62].isPrefixOf y.2 = false := by
            rw [Bool.eq_false_iff]; intro h; exact a1 ⟨h1.1, h1.2, .inr h⟩
          simp only [h1, h2, h3, and_self, if_true, Bool.false_eq_true, if_false]
          exact ⟨r, a2, a3⟩
        · simp only [if_neg h1]
          exact ⟨r, a2, a3⟩
end Go.Proofs.YtdlblokojlhmbaaDoor.MP
end
section
set_option linter.unusedVariables false
set_option linter.unusedSimpArgs false
namespace Go.Proofs.YtdlblokojlhmbaaDoor.MP
open Go.RowKit Go.Proofs.YtdlblokojlhmbaaDoorW.PrintWords Go.Proofs.YtdlblokojlhmbaaDoor.BL Go.Proofs.YtdlblokojlhmbaaDoor.Q
theorem attrs_bl : ∀ (d : Nat) (u : Tx) (y : List (Tx × Tx) × Tx), BL u → attrs d u = some y → BL y.2 ∧ y.2.length ≤ u.length ∧ (∀ x ∈ y.1, BL x.1 ∧ BL x.2) ∧ y.1.length ≤ d
  | 0, u, y, hu, h => by
    obtain rfl := Option.some.inj h
    exact ⟨hu, Nat.le_refl _, by simp, by simp⟩
  | d + 1, u, y, hu, h => by
    simp only [attrs] at h
    split at h
    · cases hx : attr (u.drop 1) with
      | none => rw [hx] at h; simp at h
      | some x =>
        rw [hx] at h
        simp only [Option.map_eq_some_iff] at h
        obtain ⟨z, hz, rfl⟩ := h
        have hab := attr_bl (hu.drop 1) hx
        have := attrs_bl d x.2 z hab.2.2.1 hz
        have hdl : (u.drop 1).length = u.length - 1 := by simp
        refine ⟨this.1, by have := this.2.1; show z.2.length ≤ u.length; omega, ?_, by have := this.2.2.2; simp; omega⟩
        intro w hw
        rcases List.mem_cons.1 hw with rfl | hw
        · exact ⟨hab.1, hab.2.1⟩
        · exact this.2.2.1 w hw
    · obtain rfl := Option.some.inj h
      exact ⟨hu, Nat.le_refl _, by simp, by simp⟩
theorem opn_bl {l : Tx} (hl : BL l) {y : Tx × List (Tx × Tx) × Bool × Tx} (h : opn l = some y) : BL y.1 ∧ (∀ x ∈ y.2.1, BL x.1 ∧ BL x.2) ∧ BL y.2.2.2 ∧ y.2.2.2.length ≤ l.length := by
  have hlen := tw_len l part
  unfold opn at h
  split at h
  · cases hx : attrs l.length (l.dropWhile part) with
    | none => rw [hx] at h; simp at h
    | some x =>
      rw [hx] at h
      have hb := attrs_bl _ _ _ (BL.dropWhile hl _) hx
      have hn := BL.takeWhile hl part
      simp only at h
      split at h
      · split at h
        · obtain rfl := Option.some.inj h
          exact ⟨hn, hb.2.2.1, hb.1.drop _, by have := hb.2.1; simp; omega⟩
        split at h
        · obtain rfl := Option.some.inj h
          exact ⟨hn, hb.2.2.1, hb.1.drop _, by have := hb.2.1; simp; omega⟩
        · simp at h
      · simp at h
  · simp at h
theorem first_bl {l : Tx} (hl : BL l) (hne : l ≠ []) {y : List M × Tx} (h : first l = some y) : BL y.2 ∧ y.2.length < l.length ∧ y.1.length ≤ 2 := by
  have hpos : 0 < l.length := List.length_pos_iff.2 hne
  unfold first at h
  split at h
  · rename_i hp
    have := prefix_len hp
    simp only [List.length_cons, List.length_nil] at this
    have hlen := tw_len (l.drop 2) part
    have h2 : (l.drop 2).length = l.length - 2 := by simp
    split at h
    · obtain rfl := Option.some.inj h
      exact ⟨(BL.dropWhile (hl.drop 2) part).drop 1, by simp; omega, by simp⟩
    · simp at h
  split at h
  · rename_i hp
    have := prefix_len hp
    have h2 : (l.drop 1).length = l.length - 1 := by simp
    cases hx : opn (l.drop 1) with
    | none => rw [hx] at h; simp at h
    | some x =>
      rw [hx] at h
      have hb := opn_bl (hl.drop 1) hx
      obtain ⟨n, ats, both, t⟩ := x
      obtain rfl := Option.some.inj h
      refine ⟨hb.2.2.1, by have := hb.2.2.2; show t.length < l.length; simp only at this; omega, ?_⟩
      show (_ :: (if both = true then _ else _)).length ≤ 2
      split <;> simp
  · rename_i hp2
    cases hm : mean (l.takeWhile (· != 60)) 0 with
    | none => rw [hm] at h; simp at h
    | some m =>
      rw [hm] at h
      obtain rfl := Option.some.inj h
      refine ⟨BL.dropWhile hl _, ?_, by simp⟩
      have hlen := tw_len l (· != 60)
      cases l with
      | nil => exact absurd rfl hne
      | cons c r =>
        have hc : (c != 60) = true := by
          rw [bne_iff_ne]
          rintro rfl
          exact hp2 (by simp [List.isPrefixOf])
        rw [List.takeWhile_cons, if_pos hc] at hlen
        simp only [List.length_cons] at hlen ⊢
        omega
theorem first_f {l : Tx} (hl : BL l) (hs : l.length ≤ 1000000) : match first l with
    | none => ∃ r : List S38 × ByteArray × Bool, Ev (fun k => mark_first.f k (strOfNums l)) r ∧ r.2.2 = false
    | some y => Ev (fun k => mark_first.f k (strOfNums l)) (y.1.map toM, strOfNums y.2, true) := by
  have e : ∀ k, mark_first.f k (strOfNums l) = (if [60, 47].isPrefixOf l = true then ((mark_named.f (strOfNums (l.drop 2))).bind fun bt139 => ((strings_CutPrefix.f bt139.2.1 (⟨#[62]⟩ : ByteArray)).bind fun bt142 => (if bt139.2.2 = true then (some ([(⟨2, 0, bt139.1, ([] : List (S51)), (⟨#[]⟩ : ByteArray)⟩ : S38)], bt142.1, bt142.2)) else (some ([(⟨2, 0, bt139.1, ([] : List (S51)), (⟨#[]⟩ : ByteArray)⟩ : S38)], bt142.1, false)))))
      else (if [60].isPrefixOf l = true then ((mark_open.f k (strOfNums (l.drop 1))).bind fun bt149 => (if bt149.2.2.2.2.2.1 = true then (some (([(⟨bt149.1, bt149.2.1, bt149.2.2.1, bt149.2.2.2.1, bt149.2.2.2.2.1⟩ : S38)] ++ [(⟨2, 0, bt149.2.2.1, ([] : List (S51)), (⟨#[]⟩ : ByteArray)⟩ : S38)]), bt149.2.2.2.2.2.2.1, bt149.2.2.2.2.2.2.2)) else (some ([(⟨bt149.1, bt149.2.1, bt149.2.2.1, bt149.2.2.2.1, bt149.2.2.2.2.1⟩ : S38)], bt149.2.2.2.2.2.2.1, bt149.2.2.2.2.2.2.2))))
      else ((mark_cut_less.f (strOfNums l)).bind fun bt166 => ((mark_meant.f k bt166.1).bind fun bt168 => (some ([(⟨3, 0, (⟨#[]⟩ : ByteArray), ([] : List (S51)), bt168.1⟩ : S38)], bt166.2, bt168.2)))))) := by
    intro k
    unfold mark_first.f
    simp only [cut1 hl [60, 47] (bl_dec rfl) (⟨#[60, 47]⟩ : ByteArray) rfl, cut1 hl [60] (bl_dec rfl) (⟨#[60]⟩ : ByteArray) rfl, Option.bind_some]
    by_cases h1 : [60, 47].isPrefixOf l = true
    · simp only [if_pos h1, if_true]
      rfl
    · simp only [if_neg h1, Bool.false_eq_true, if_false]
      by_cases h2 : [60].isPrefixOf l = true
      · simp only [if_pos h2, if_true]
        rfl
      · simp only [if_neg h2, Bool.false_eq_true, if_false]
  simp only [e]
  unfold first
  by_cases h1 : [60, 47].isPrefixOf l = true
  · simp only [if_pos h1]
    have h2 : (l.drop 2).length = l.length - 2 := by simp
    have hdw : BL ((l.drop 2).dropWhile part) := BL.dropWhile (hl.drop 2) _
    simp only [named_f (hl.drop 2) (by omega), Option.bind_some, cut1 hdw [62] (bl_dec rfl) (⟨#[62]⟩ : ByteArray) rfl]
    cases hn : isName ((l.drop 2).takeWhile part) with
    | false =>
      simp only [Bool.false_eq_true, if_false, false_and]
      exact ⟨_, Ev.now _, rfl⟩
    | true =>
      simp only [if_true, true_and]
      by_cases h3 : [62].isPrefixOf ((l.drop 2).dropWhile part) = true
      · simp only [if_pos h3]
        exact Ev.now _
      · simp only [if_neg h3]
        exact ⟨_, Ev.now _, rfl⟩
  · simp only [if_neg h1]
    by_cases h2 : [60].isPrefixOf l = true
    · simp only [if_pos h2]
      have h3 : (l.drop 1).length = l.length - 1 := by simp
      have ho := open_f (hl.drop 1) (by omega)
      cases hx : opn (l.drop 1) with
      | none =>
        rw [hx] at ho
        obtain ⟨r, hr, hr2⟩ := ho
        have hr2' : r.2.2.2.2.2.2.2 = false := hr2
        cases hb : r.2.2.2.2.2.1 with
        | true =>
          refine ⟨_, Ev.bind hr (r := ([(⟨r.1, r.2.1, r.2.2.1, r.2.2.2.1, r.2.2.2.2.1⟩ : S38)] ++ [(⟨2, 0, r.2.2.1, ([] : List (S51)), (⟨#[]⟩ : ByteArray)⟩ : S38)], r.2.2.2.2.2.2.1, r.2.2.2.2.2.2.2)) ?_, hr2'⟩
          simp only [hb, if_true]
          exact Ev.now _
        | false =>
          refine ⟨_, Ev.bind hr (r := ([(⟨r.1, r.2.1, r.2.2.1, r.2.2.2.1, r.2.2.2.2.1⟩ : S38)], r.2.2.2.2.2.2.1, r.2.2.2.2.2.2.2)) ?_, hr2'⟩
          simp only [hb, Bool.false_eq_true, if_false]
          exact Ev.now _
      | some y =>
        rw [hx] at ho
        obtain ⟨n, ats, both, t⟩ := y
        refine Ev.bind ho ?_
        cases both with
        | true => simp only [if_true]; exact Ev.now _
        | false => simp only [Bool.false_eq_true, if_false]; exact Ev.now _
    · simp only [if_neg h2]
      have hlen := tw_len l (· != 60)
      simp only [mark_cut_less.f, cut_at hl (fun x => x != 60) (by omega), ne_fun, Option.bind_some]
      have hm := meant_f (BL.takeWhile hl (· != 60)) (by omega)
      cases hx : mean (l.takeWhile (· != 60)) 0 with
      | none =>
        rw [hx] at hm
        exact ⟨_, Ev.bind hm (Ev.now _), rfl⟩
      | some m =>
        rw [hx] at hm
        refine Ev.bind hm ?_
        exact Ev.now _
def setAt (a : Int) (m : M) : M := { m with at_ := a }
theorem rd_map (ms : List M) (i : Nat) (hi : i < ms.length) : rd_T38 (ms.map toM) (i : Int) = toM ms[i] := by
  unfold rd_T38
  rw [show ((i : Int)).toNat = i from rfl, List.getD_eq_getElem?_getD, List.getElem?_map, List.getElem?_eq_getElem hi]
  rfl
theorem read_l1 (x0 : ByteArray) (W a : Int) (ms : List M) (hms : ms.length ≤ 1000000) (r : List S38 × Int × Int) : ∀ (d i : Nat) (acc : List M), i + d = ms.length → acc.length + d < 1954687338268 →
    Ev (fun k => mark_Read.l0 k x0 ((acc ++ (ms.drop i).map (setAt a)).map toM) W) r → Ev (fun k => mark_Read.l1 k x0 (acc.map toM) W a (ms.map toM) (ms.length : Int) (i : Int)) r
  | 0, i, acc, hi, ha, h => by
    refine Ev.step (fun k => by rw [mark_Read.l1]) ?_
    simp only [if_neg (show ¬ ((i : Int) < (ms.length : Int)) by omega)]
    rw [List.drop_eq_nil_of_le (by omega)] at h
    simpa using h
  | d + 1, i, acc, hi, ha, h => by
    refine Ev.step (fun k => by rw [mark_Read.l1]) ?_
    have hlt : i < ms.length := by omega
    simp only [if_pos (show ((i : Int) < (ms.length : Int)) by omega), if_pos (show (0 : Int) ≤ (i : Int) by omega), List.length_map, if_pos (show acc.length < 1954687338268 by omega), rd_map ms i hlt]
    rw [List.drop_eq_getElem_cons hlt] at h
    have := read_l1 x0 W a ms hms r d (i + 1) (acc ++ [setAt a ms[i]]) (by omega) (by simp; omega) (by rw [List.append_assoc]; exact h)
    simp only [wrapS (x := (i : Int) + 1) (by omega) (by omega)]
    simpa [toM, setAt] using this
def readR (acc : List M) : Sum Int (List M) → List S38 × Int × Int
  | .inl e => ([], e, 4)
  | .inr r => ((acc ++ r).map toM, 0, 0)
theorem read_l0 : ∀ (d : Nat) (l : Tx) (acc : List M) (a W : Int), BL l → l.length ≤ d → l.length ≤ 20000 → 0 ≤ a → a + l.length = W → W ≤ 20000 → acc.length + 2 * l.length ≤ 50000 →
    Ev (fun k => mark_Read.l0 k (strOfNums l) (acc.map toM) W) (readR acc (read d l a)) := by
  intro d
  induction d with
  | zero =>
    intro l acc a W hl hd hs h0 ha hW hacc
    have : l = [] := List.length_eq_zero_iff.1 (by omega)
    subst this
    refine Ev.step (fun k => by rw [mark_Read.l0]) ?_
    simp only [nil_toList hl, if_true, read, readR, List.append_nil]
    exact Ev.now _
  | succ d ih =>
    intro l acc a W hl hd hs h0 ha hW hacc
    refine Ev.step (fun k => by rw [mark_Read.l0]) ?_
    simp only [nil_toList hl]
    cases l with
    | nil =>
      simp only [if_true, read, readR, List.append_nil]
      exact Ev.now _
    | cons c r =>
      simp only [reduceCtorEq, if_false, size_str]
      have hw : wrap64 (W - (((c :: r).length : Nat) : Int)) = a := by rw [wrapS (by omega) (by omega)]; omega
      simp only [hw]
      have hf := first_f hl (by omega)
      simp only [read]
      cases hx : first (c :: r) with
      | none =>
        rw [hx] at hf
        obtain ⟨q, hq, hq2⟩ := hf
        refine Ev.bind hq ?_
        simp only [hq2, Bool.false_eq_true, if_false]
        exact Ev.now _
      | some y =>
        rw [hx] at hf
        have hb := first_bl hl (by simp) hx
        refine Ev.bind hf ?_
        simp only [if_true, List.length_map]
        refine read_l1 _ W a y.1 (by omega) _ y.1.length 0 acc (by omega) (by omega) ?_
        rw [List.drop_zero]
        have hlen : (c :: r).length = r.length + 1 := by simp
        have := ih y.2 (acc ++ y.1.map (setAt a)) (a + ((r.length : Int) + 1 - (y.2.length : Int))) W hb.1 (by omega) (by omega) (by omega) (by omega) hW (by simp; omega)
        cases hz : read d y.2 (a + ((r.length : Int) + 1 - (y.2.length : Int))) with
        | inl e => rw [hz] at this; exact this
        | inr z =>
          rw [hz] at this
          simp only [readR, List.append_assoc] at this ⊢
          exact this
theorem read_f {l : Tx} (hl : BL l) (hs : l.length ≤ 20000) : Ev (fun k => mark_Read.f k (strOfNums l)) (readR [] (read l.length l 0)) := by
  have := read_l0 l.length l [] 0 l.length hl (Nat.le_refl _) hs (by omega) (by omega) (by omega) (by simp; omega)
  unfold mark_Read.f
  simp only [size_str, if_neg (show ¬ ((l.length : Int) > 20000) by omega)]
  exact this
end Go.Proofs.YtdlblokojlhmbaaDoor.MP
end
section
set_option linter.unusedVariables false
set_option linter.unusedSimpArgs false
namespace Go.Proofs.YtdlblokojlhmbaaDoor.MP
open Go.RowKit Go.Proofs.YtdlblokojlhmbaaDoorW.PrintWords Go.Proofs.YtdlblokojlhmbaaDoor.BL Go.Proofs.YtdlblokojlhmbaaDoor.Q
def sg (c : Int) : Tx := if c = 60 then [38, 108, 116, 59] else if c = 62 then [38, 103, 116, 59] else if c = 38 then [38, 97, 109, 112, 59] else if c = 34 then [38, 113, 117, 111, 116, 59] else []
theorem sg_bl (c : Int) : BL (sg c) ∧ (sg c).length ≤ 1000 := by
  unfold sg
  split
  · exact ⟨bl_dec rfl, by simp⟩
  split
  · exact ⟨bl_dec rfl, by simp⟩
  split
  · exact ⟨bl_dec rfl, by simp⟩
  split
  · exact ⟨bl_dec rfl, by simp⟩
  · exact ⟨BL.nil, by simp⟩
def toB (x : Tx × Tx) : S60 := ⟨strOfNums x.1, strOfNums x.2⟩
end Go.Proofs.YtdlblokojlhmbaaDoor.MP
end
section
set_option linter.unusedVariables false
set_option linter.unusedSimpArgs false
namespace Go.Proofs.YtdlblokojlhmbaaDoor.MP
open Go.RowKit Go.Proofs.YtdlblokojlhmbaaDoorW.PrintWords Go.Proofs.YtdlblokojlhmbaaDoor.BL Go.Proofs.YtdlblokojlhmbaaDoor.Q
def toR (m : M) : S34 := ⟨m.kind, m.at_, strOfNums m.name, m.atts.map toB, strOfNums m.text⟩
/-! ### the laws' own functions -/
def cv (x : S51) : S60 := ⟨x.f0, x.f1⟩
theorem ref_l0 (kd a : Int) (nm tx : ByteArray) (xs : List S51) (hx : xs.length ≤ 1000000000) : ∀ (d i : Nat) (acc : List S60), i + d = xs.length → acc.length = i →
    Ev (fun k => treenaillaw01_ref.l0 k xs (xs.length : Int) (i : Int) kd a nm acc tx) (kd, a, nm, acc ++ (xs.drop i).map cv, tx)
  | 0, i, acc, hi, ha => by
    refine Ev.step (fun k => by rw [treenaillaw01_ref.l0]) ?_
    simp only [if_neg (show ¬ (i : Int) < (xs.length : Int) by omega)]
    rw [List.drop_eq_nil_of_le (by omega), List.map_nil, List.append_nil]
    exact Ev.now _
  | d + 1, i, acc, hi, ha => by
    refine Ev.step (fun k => by rw [treenaillaw01_ref.l0]) ?_
    have hlt : i < xs.length := by omega
    have e : rd_T51 xs (i : Int) = xs[i] := by
      unfold rd_T51
      rw [show ((i : Int)).toNat = i from rfl, List.getD_eq_getElem?_getD, List.getElem?_eq_getElem hlt]
      rfl
    simp only [if_pos (show (i : Int) < (xs.length : Int) by omega), if_pos (show (0 : Int) ≤ (i : Int) by omega), if_pos (show acc.length < 4398046511104 by omega), wrapS (x := (i : Int) + 1) (by omega) (by omega), e]
    have := ref_l0 kd a nm tx xs hx d (i + 1) (acc ++ [cv xs[i]]) (by omega) (by simp; omega)
    rw [List.drop_eq_getElem_cons hlt, List.map_cons]
    rw [List.append_assoc, List.singleton_append] at this
    exact this
theorem ref_f (kd a : Int) (nm tx : ByteArray) (xs : List S51) (hx : xs.length ≤ 1000000000) : Ev (fun k => treenaillaw01_ref.f k kd a nm xs tx) (kd, a, nm, xs.map cv, tx) := by
  have := ref_l0 kd a nm tx xs hx xs.length 0 [] (by omega) rfl
  exact this
theorem same_l0 (xs : List S60) (hx : xs.length ≤ 1000000000) (k1 a1 k2 a2 : Int) (n1 t1 n2 t2 : ByteArray) : ∀ (d i : Nat), i + d = xs.length → Ev (fun k => treenaillaw01_same.l0 k (xs.length : Int) (i : Int) k1 a1 n1 xs t1 k2 a2 n2 xs t2) true
  | 0, i, hi => by
    refine Ev.step (fun k => by rw [treenaillaw01_same.l0]) ?_
    simp only [if_neg (show ¬ (i : Int) < (xs.length : Int) by omega)]
    exact Ev.now _
  | d + 1, i, hi => by
    refine Ev.step (fun k => by rw [treenaillaw01_same.l0]) ?_
    simp only [if_pos (show (i : Int) < (xs.length : Int) by omega), if_pos (show (0 : Int) ≤ (i : Int) by omega), beq_self_eq_true, Bool.not_true, Bool.or_self, Bool.false_eq_true, if_false, wrapS (x := (i : Int) + 1) (by omega) (by omega)]
    exact same_l0 xs hx k1 a1 k2 a2 n1 t1 n2 t2 d (i + 1) (by omega)
theorem same_f (kd a1 a2 : Int) (nm tx : ByteArray) (xs : List S60) (hx : xs.length ≤ 1000000000) (b : Bool) (h : b = true → a1 = a2) : Ev (fun k => treenaillaw01_same.f k kd a1 nm xs tx kd a2 nm xs tx b) true := by
  have hj : Ev (fun k => treenaillaw01_same.j0 k false kd a1 nm xs tx kd a2 nm xs tx) true := by
    refine Ev.step (fun k => by rw [treenaillaw01_same.j0]) ?_
    simp only [Bool.false_eq_true, if_false]
    exact same_l0 xs hx kd a1 kd a2 nm tx nm tx xs.length 0 (by omega)
  have e : ((xs.length : Int) != (xs.length : Int)) = false := by simp
  unfold treenaillaw01_same.f
  cases b with
  | true => simp only [if_true, h rfl, e]; rw [h rfl] at hj; exact hj
  | false => simp only [if_true, Bool.false_eq_true, if_false, e]; exact hj
theorem opens_f : Ev (fun k => treenaillaw01_opens.f k) true := by
  have hb : BL [60, 97, 32, 98, 61, 34, 49, 38, 108, 116, 59, 34, 47, 62] := bl_dec rfl
  have := read_f hb (by simp)
  have e : read ([60, 97, 32, 98, 61, 34, 49, 38, 108, 116, 59, 34, 47, 62] : Tx).length [60, 97, 32, 98, 61, 34, 49, 38, 108, 116, 59, 34, 47, 62] 0 = .inr [⟨1, 0, [97], [([98], [49, 60])], []⟩, ⟨2, 0, [97], [], []⟩] := by decide
  rw [e] at this
  unfold treenaillaw01_opens.f
  refine Ev.bind this ?_
  have e2 : ((⟨#[49, 60]⟩ : ByteArray)).toList = [49, 60] := by rw [Go.Lib.toList_data]
  have e3 : ((⟨#[97]⟩ : ByteArray)).toList = [97] := by rw [Go.Lib.toList_data]
  refine Ev.congr (f := fun _ => some true) ?_ (Ev.now _)
  intro k
  show (if ((0 : Int)) = 0 then _ else _) = _
  have e4 : (rd_T51 (rd_T38 (([⟨1, 0, [97], [([98], [49, 60])], []⟩, ⟨2, 0, [97], [], []⟩] : List M).map toM) 0).f3 0).f1.toList = ([49, 60] : List UInt8) := e2
  have e5 : (rd_T38 (([⟨1, 0, [97], [([98], [49, 60])], []⟩, ⟨2, 0, [97], [], []⟩] : List M).map toM) 1).f2.toList = ([97] : List UInt8) := e3
  simp only [readR, List.nil_append, e4, e5]
  rfl
end Go.Proofs.YtdlblokojlhmbaaDoor.MP
end
section
set_option linter.unusedVariables false
set_option linter.unusedSimpArgs false
namespace Go.Proofs.YtdlblokojlhmbaaDoor.MP
open Go.RowKit Go.Proofs.YtdlblokojlhmbaaDoorW.PrintWords Go.Proofs.YtdlblokojlhmbaaDoor.BL Go.Proofs.YtdlblokojlhmbaaDoor.Q
def esc1 (c : Int) : Tx := if sg c = [] then [c] else sg c
def escP : Tx → Option Tx
  | [] => some []
  | c :: r => if plain c = true then (escP r).map (esc1 c ++ ·) else none
def escR (o : Tx) : Option Tx → ByteArray × Int
  | none => (⟨#[]⟩, 4)
  | some m => (strOfNums (o ++ m), 0)
theorem esc1_len (c : Int) : (esc1 c).length ≤ 6 := by
  unfold esc1 sg
  repeat' split
  all_goals simp
theorem escP_len : ∀ (l m : Tx), escP l = some m → m.length ≤ 6 * l.length
  | [], m, h => by obtain rfl := Option.some.inj h; simp
  | c :: r, m, h => by
    simp only [escP] at h
    split at h
    · obtain ⟨m', h1, rfl⟩ := Option.map_eq_some_iff.1 h
      have := escP_len r m' h1
      have := esc1_len c
      simp
      omega
    · simp at h
theorem esc1_bl {c : Int} (h : 0 ≤ c ∧ c < 256) : BL (esc1 c) := by
  unfold esc1
  split
  · exact BL.cons h BL.nil
  · exact (sg_bl c).1
theorem escP_bl : ∀ (l m : Tx), BL l → escP l = some m → BL m
  | [], m, _, h => by obtain rfl := Option.some.inj h; exact BL.nil
  | c :: r, m, hl, h => by
    simp only [escP] at h
    split at h
    · obtain ⟨m', h1, rfl⟩ := Option.map_eq_some_iff.1 h
      exact BL.append (esc1_bl (hl c (by simp))) (escP_bl r m' (fun x hx => hl x (by simp [hx])) h1)
    · simp at h
theorem escAt (c : Int) : (mark_Escape.at c < 0 ∧ esc1 c = [c]) ∨ ∃ j : Nat, mark_Escape.at c = (j : Int) ∧ Tabs.txt j = strOfNums (esc1 c) := by
  unfold mark_Escape.at
  simp only [Tabs.ix, Tabs.key]
  by_cases h0 : c = 60
  · subst h0; exact .inr ⟨0, rfl, rfl⟩
  by_cases h1 : c = 62
  · subst h1; exact .inr ⟨1, rfl, rfl⟩
  by_cases h2 : c = 38
  · subst h2; exact .inr ⟨2, rfl, rfl⟩
  by_cases h3 : c = 34
  · subst h3; exact .inr ⟨3, rfl, rfl⟩
  · left
    have e0 : ((60 : Int) == c) = false := by simp; omega
    have e1 : ((62 : Int) == c) = false := by simp; omega
    have e2 : ((38 : Int) == c) = false := by simp; omega
    have e3 : ((34 : Int) == c) = false := by simp; omega
    simp only [e0, e1, e2, e3]
    refine ⟨by simp, ?_⟩
    unfold esc1 sg
    rw [if_neg h0, if_neg h1, if_neg h2, if_neg h3]
    rfl
theorem esc_l0 {l : Tx} (hl : BL l) (hs : l.length ≤ 1000000) : ∀ (d i : Nat) (o : Tx), i ≤ l.length → l.length - i ≤ d → o.length ≤ 6 * i → Ev (fun k => mark_Escape.l0 k (strOfNums o) (strOfNums l) (i : Int)) (escR o (escP (l.drop i)))
  | d, i, o, hi, hd, ho => by
    refine Ev.step (fun k => by rw [mark_Escape.l0]) ?_
    simp only [size_str]
    by_cases h : i < l.length
    · obtain ⟨d, rfl⟩ : ∃ e, d = e + 1 := ⟨d - 1, by omega⟩
      simp only [if_pos (show (i : Int) < (l.length : Int) by omega), if_pos (show (0 : Int) ≤ (i : Int) by omega), bt_str hl, show ((i : Int)).toNat = i from rfl, plain_f, Option.bind_some, wrapS (x := (i : Int) + 1) (by omega) (by omega)]
      rw [getD_drop l i h]
      simp only [escP]
      generalize l.getD i 0 = c
      cases hp : plain c with
      | false => simp only [Bool.false_eq_true, if_false]; exact Ev.now _
      | true =>
        simp only [if_true]
        have h6 := esc1_len c
        have ih := esc_l0 hl hs d (i + 1) (o ++ esc1 c) (by omega) (by omega) (by simp; omega)
        have fin : Ev (fun k => mark_Escape.l0 k (strOfNums (o ++ esc1 c)) (strOfNums l) ((i : Int) + 1)) (escR o ((escP (l.drop (i + 1))).map (esc1 c ++ ·))) := by
          cases hm : escP (l.drop (i + 1)) with
          | none => rw [hm] at ih; exact ih
          | some m => rw [hm] at ih; simpa [escR] using ih
        rcases escAt c with ⟨h1, h2⟩ | ⟨j, h1, h2⟩
        · simp only [if_pos h1, if_pos (show o.length + 1 ≤ 140737488355328 by omega), one_str, str_append]
          rw [h2] at fin ⊢
          exact fin
        · simp only [h1, if_neg (show ¬ ((j : Int) < 0) by omega), show ((j : Int)).toNat = j from rfl, h2, size_str, if_pos (show o.length + (esc1 c).length ≤ 140737488355328 by omega), str_append]
          exact fin
    · simp only [if_neg (show ¬ (i : Int) < (l.length : Int) by omega)]
      rw [List.drop_eq_nil_of_le (by omega)]
      simp only [escP, escR, List.append_nil]
      exact Ev.now _
termination_by d => d
theorem esc_f {l : Tx} (hl : BL l) (hs : l.length ≤ 1000000) : Ev (fun k => mark_Escape.f k (strOfNums l)) (escR [] (escP l)) :=
  esc_l0 hl hs l.length 0 [] (by omega) (by omega) (by simp)
/-! ### a mark's bytes -/
def attsP : List (Tx × Tx) → Option Tx
  | [] => some []
  | x :: r => match escP x.2 with
    | none => none
    | some e => (attsP r).map ([32] ++ x.1 ++ [61, 34] ++ e ++ [34] ++ ·)
def fineAtts (ats : List (Tx × Tx)) : Bool := decide (ats.length ≤ 64) && !dup ats && ats.all (fun x => isName x.1)
def writeP (m : M) : Tx × Int :=
  if m.kind < 1 ∨ 3 < m.kind then ([], 1)
  else if m.kind = 3 then (if m.name = [] ∧ m.atts = [] ∧ m.text ≠ [] then (match escP m.text with | none => ([], 4) | some e => (e, 0)) else ([], 4))
  else if m.kind = 2 then (if isName m.name = true ∧ m.atts = [] ∧ m.text = [] then ([60, 47] ++ m.name ++ [62], 0) else ([], 4))
  else if isName m.name = true ∧ m.text = [] ∧ fineAtts m.atts = true then (match attsP m.atts with | none => ([], 4) | some s => ([60] ++ m.name ++ s ++ [62], 0)) else ([], 4)
def pr (x : Tx × Int) : ByteArray × Int := (strOfNums x.1, x.2)
/-- A mark that is not too large to be gone through. -/
structure Fits (m : M) : Prop where
  bn : BL m.name
  bt : BL m.text
  ba : ∀ x ∈ m.atts, BL x.1 ∧ BL x.2
  la : m.atts.length ≤ 1000
  lt : m.text.length ≤ 1000000
  lv : ∀ x ∈ m.atts, x.1.length ≤ 10000 ∧ x.2.length ≤ 10000
theorem anywrong_f {ats : List (Tx × Tx)} (hb : ∀ x ∈ ats, BL x.1) (hs : ats.length ≤ 1000) : mark_anywrong.f (ats.map toA) = some (ats.any fun x => !isName x.1) := by
  unfold mark_anywrong.f
  rw [List.length_map, if_pos (by omega)]
  congr 1
  rw [Bool.eq_iff_iff, decide_eq_true_iff]
  have := ix_any mark_twice.bad (ats.map toA) (ats.map toA).length 0 (by omega)
  rw [List.length_map] at this
  rw [this, List.drop_zero, List.any_map]
  have e : ∀ x ∈ ats, mark_twice.bad (toA x) = !isName x.1 := by
    intro x hx
    unfold mark_twice.bad
    show (!((mark_Name.f (strOfNums x.1)).getD false)) = _
    rw [name_f (hb x hx)]
    rfl
  simp only [List.any_eq_true, Function.comp]
  constructor
  · rintro ⟨x, hx, h⟩; exact ⟨x, hx, by rw [← e x hx]; exact h⟩
  · rintro ⟨x, hx, h⟩; exact ⟨x, hx, by rw [e x hx]; exact h⟩
theorem wrong_f {m : M} (hf : Fits m) : mark_wrong.f m.kind m.at_ (strOfNums m.name) (m.atts.map toA) (strOfNums m.text) = some (if m.kind = 3 then !(decide (m.name = []) && decide (m.atts = []) && !decide (m.text = [])) else if m.kind = 2 then !(isName m.name && decide (m.atts = []) && decide (m.text = [])) else !(isName m.name && decide (m.text = []) && fineAtts m.atts)) := by
  unfold mark_wrong.f
  have ht : ((strOfNums m.text).toList == ([] : List UInt8)) = decide (m.text = []) := by rw [Bool.eq_iff_iff, beq_iff_eq, decide_eq_true_iff, nil_toList hf.bt]
  have ht2 : ((strOfNums m.text).toList != ([] : List UInt8)) = !decide (m.text = []) := by unfold bne; rw [ht]
  have ha : ((m.atts.length : Int) > 0) ↔ m.atts ≠ [] := by
    cases m.atts with
    | nil => simp
    | cons x r => simp
  simp only [nil_toList hf.bn, nil_toList hf.bt, ht, ht2, name_f hf.bn, List.length_map, Option.bind_some, twice_f (fun x hx => (hf.ba x hx).1) (by have := hf.la; omega), anywrong_f (fun x hx => (hf.ba x hx).1) hf.la, ha]
  by_cases h3 : m.kind = 3
  · simp only [if_pos h3]
    by_cases hn : m.name = []
    · by_cases hat : m.atts = []
      · simp [hn, hat]
      · simp [hn, hat]
    · simp [hn]
  · simp only [if_neg h3]
    by_cases h2 : m.kind = 2
    · simp only [if_pos h2]
      cases isName m.name with
      | false => simp
      | true =>
        by_cases hat : m.atts = []
        · simp [hat]
        · simp [hat]
    · simp only [if_neg h2]
      cases isName m.name with
      | false => simp
      | true =>
        by_cases htx : m.text = []
        · simp only [htx, if_true]
          unfold fineAtts
          by_cases h64 : m.atts.length ≤ 64
          · simp only [if_neg (show ¬ (m.atts.length : Int) > 64 by omega)]
            cases dup m.atts with
            | true => simp
            | false => simp [h64, List.not_all_eq_any_not]
          · simp only [if_pos (show (m.atts.length : Int) > 64 by omega)]
            simp [h64]
        · simp [htx]
end Go.Proofs.YtdlblokojlhmbaaDoor.MP
end
section
set_option linter.unusedVariables false
set_option linter.unusedSimpArgs false
namespace Go.Proofs.YtdlblokojlhmbaaDoor.MP
open Go.RowKit Go.Proofs.YtdlblokojlhmbaaDoorW.PrintWords Go.Proofs.YtdlblokojlhmbaaDoor.BL Go.Proofs.YtdlblokojlhmbaaDoor.Q
theorem rdA (ats : List (Tx × Tx)) (i : Nat) (hi : i < ats.length) : rd_T51 (ats.map toA) (i : Int) = toA ats[i] := by
  unfold rd_T51
  rw [show ((i : Int)).toNat = i from rfl, List.getD_eq_getElem?_getD, List.getElem?_map, List.getElem?_eq_getElem hi]
  rfl
theorem isName_len {l : Tx} (h : isName l = true) : l.length ≤ 24 := by
  simp only [isName, Bool.and_eq_true, decide_eq_true_iff] at h
  exact h.1.1.2
def tailR (o : Tx) : Option Tx → ByteArray × Int
  | none => (⟨#[]⟩, 4)
  | some s => (strOfNums (o ++ s ++ [62]), 0)
theorem write_l0 {ats : List (Tx × Tx)} (hb : ∀ x ∈ ats, BL x.1 ∧ BL x.2) (hn : ∀ x ∈ ats, isName x.1 = true) (hv : ∀ x ∈ ats, x.2.length ≤ 10000) (hl : ats.length ≤ 1000) : ∀ (d i : Nat) (o : Tx), i + d = ats.length → o.length ≤ 1000 + 100000 * i →
    Ev (fun k => mark_Write.l0 k (strOfNums o) (ats.map toA) (ats.length : Int) (i : Int)) (tailR o (attsP (ats.drop i)))
  | 0, i, o, hi, ho => by
    refine Ev.step (fun k => by rw [mark_Write.l0]) ?_
    have e0 : ats.drop i = [] := List.drop_eq_nil_of_le (by omega)
    simp only [if_neg (show ¬ (i : Int) < (ats.length : Int) by omega), size_str, if_pos (show o.length + 1 ≤ 9223372036854775807 by omega), e0, attsP, tailR, List.append_nil]
    rw [show (⟨#[62]⟩ : ByteArray) = strOfNums [62] from rfl, str_append]
    exact Ev.now _
  | d + 1, i, o, hi, ho => by
    refine Ev.step (fun k => by rw [mark_Write.l0]) ?_
    have hlt : i < ats.length := by omega
    have hm := List.getElem_mem hlt
    simp only [if_pos (show (i : Int) < (ats.length : Int) by omega), if_pos (show (0 : Int) ≤ (i : Int) by omega), List.length_map, rdA ats i hlt, wrapS (x := (i : Int) + 1) (by omega) (by omega)]
    rw [List.drop_eq_getElem_cons hlt]
    generalize hx : ats[i] = x at hm
    have hnl := isName_len (hn x hm)
    refine Ev.bind (esc_f (hb x hm).2 (by have := hv x hm; omega)) ?_
    simp only [attsP]
    cases he : escP x.2 with
    | none =>
      simp only [escR, show ¬ ((4 : Int) = 0) by omega, if_false]
      exact Ev.now _
    | some e =>
      have hel := escP_len _ _ he
      have hvx := hv x hm
      simp only [escR, if_true, List.nil_append, toA]
      simp only [show (⟨#[32]⟩ : ByteArray) = strOfNums [32] from rfl, show (⟨#[61, 34]⟩ : ByteArray) = strOfNums [61, 34] from rfl, show (⟨#[34]⟩ : ByteArray) = strOfNums [34] from rfl, str_append, size_str, List.length_append, List.length_cons, List.length_nil,
        if_pos (show 1 + x.1.length ≤ 9223372036854775807 by omega), if_pos (show 0 + 1 + x.1.length + 2 ≤ 9223372036854775807 by omega), if_pos (show 0 + 1 + x.1.length + (0 + 1 + 1) + e.length ≤ 9223372036854775807 by omega), if_pos (show 0 + 1 + x.1.length + (0 + 1 + 1) + e.length + 1 ≤ 9223372036854775807 by omega), if_pos (show o.length + (0 + 1 + x.1.length + (0 + 1 + 1) + e.length + (0 + 1)) ≤ 9223372036854775807 by omega)]
      have := write_l0 hb hn hv hl d (i + 1) (o ++ ([32] ++ x.1 ++ [61, 34] ++ e ++ [34])) (by omega) (by simp; omega)
      cases ha : attsP (ats.drop (i + 1)) with
      | none => rw [ha] at this; exact this
      | some s => rw [ha] at this; simpa [tailR] using this
theorem fine_names {ats : List (Tx × Tx)} (h : fineAtts ats = true) : ∀ x ∈ ats, isName x.1 = true := by
  simp only [fineAtts, Bool.and_eq_true, List.all_eq_true] at h
  exact h.2
theorem write_f {m : M} (hf : Fits m) (hnm : m.name.length ≤ 140737488351232) : Ev (fun k => mark_Write.f k m.kind m.at_ (strOfNums m.name) (m.atts.map toA) (strOfNums m.text)) (pr (writeP m)) := by
  have hj1 : Ev (fun k => mark_Write.j0 k true m.kind m.at_ (strOfNums m.name) (m.atts.map toA) (strOfNums m.text)) (⟨#[]⟩, 1) := by
    refine Ev.step (fun k => by rw [mark_Write.j0]) ?_
    simp only [if_true]
    exact Ev.now _
  unfold mark_Write.f writeP
  by_cases h1 : m.kind < 1
  · simp only [if_pos h1, if_pos (show m.kind < 1 ∨ 3 < m.kind from .inl h1)]
    exact hj1
  simp only [if_neg h1]
  by_cases h3 : m.kind > 3
  · simp only [decide_eq_true h3, if_pos (show m.kind < 1 ∨ 3 < m.kind from .inr h3)]
    exact hj1
  simp only [decide_eq_false h3, if_neg (show ¬ (m.kind < 1 ∨ 3 < m.kind) by omega)]
  refine Ev.step (fun k => by rw [mark_Write.j0]) ?_
  simp only [Bool.false_eq_true, if_false, wrong_f hf, Option.bind_some]
  by_cases k3 : m.kind = 3
  · simp only [if_pos k3]
    by_cases hg : m.name = [] ∧ m.atts = [] ∧ m.text ≠ []
    · have e : (!(decide (m.name = []) && decide (m.atts = []) && !decide (m.text = []))) = false := by simp [hg.1, hg.2.1, hg.2.2]
      simp only [e, Bool.false_eq_true, if_false, if_pos hg]
      have := Ev.bind (f := fun _ (bt : ByteArray × Int) => some (bt.1, bt.2)) (esc_f hf.bt hf.lt) (Ev.now (escR [] (escP m.text)))
      cases he : escP m.text with
      | none => rw [he] at this; exact this
      | some e => rw [he] at this; exact this
    · have e : (!(decide (m.name = []) && decide (m.atts = []) && !decide (m.text = []))) = true := by
        simp only [Bool.not_eq_true', Bool.and_eq_false_iff, decide_eq_false_iff_not, Bool.not_eq_false', decide_eq_true_iff]
        by_cases a : m.name = [] <;> by_cases b : m.atts = [] <;> by_cases c : m.text = [] <;> simp_all
      simp only [e, if_true, if_neg hg]
      exact Ev.now _
  simp only [if_neg k3]
  by_cases k2 : m.kind = 2
  · simp only [if_pos k2]
    by_cases hg : isName m.name = true ∧ m.atts = [] ∧ m.text = []
    · have e : (!(isName m.name && decide (m.atts = []) && decide (m.text = []))) = false := by simp [hg.1, hg.2.1, hg.2.2]
      have hl := isName_len hg.1
      simp only [e, Bool.false_eq_true, if_false, if_pos hg]
      simp only [show (⟨#[60, 47]⟩ : ByteArray) = strOfNums [60, 47] from rfl, show (⟨#[62]⟩ : ByteArray) = strOfNums [62] from rfl, str_append, size_str, List.length_append, List.length_cons, List.length_nil, if_pos (show 2 + m.name.length ≤ 9223372036854775807 by omega), if_pos (show 0 + 1 + 1 + m.name.length + 1 ≤ 9223372036854775807 by omega)]
      exact Ev.now _
    · have e : (!(isName m.name && decide (m.atts = []) && decide (m.text = []))) = true := by
        by_cases a : isName m.name = true <;> by_cases b : m.atts = [] <;> by_cases c : m.text = [] <;> simp_all
      simp only [e, if_true, if_neg hg]
      exact Ev.now _
  simp only [if_neg k2]
  by_cases hg : isName m.name = true ∧ m.text = [] ∧ fineAtts m.atts = true
  · have e : (!(isName m.name && decide (m.text = []) && fineAtts m.atts)) = false := by simp [hg.1, hg.2.1, hg.2.2]
    have hl := isName_len hg.1
    simp only [e, Bool.false_eq_true, if_false, if_pos hg, size_str, if_pos (show 1 + m.name.length ≤ 9223372036854775807 by omega)]
    have := write_l0 hf.ba (fine_names hg.2.2) (fun x hx => (hf.lv x hx).2) hf.la m.atts.length 0 ([60] ++ m.name) (by omega) (by simp; omega)
    simp only [show (⟨#[60]⟩ : ByteArray) = strOfNums [60] from rfl, str_append, List.length_map]
    rw [List.drop_zero] at this
    cases ha : attsP m.atts with
    | none => rw [ha] at this; exact this
    | some s => rw [ha] at this; exact this
  · have e : (!(isName m.name && decide (m.text = []) && fineAtts m.atts)) = true := by
      by_cases a : isName m.name = true <;> by_cases b : fineAtts m.atts = true <;> by_cases c : m.text = [] <;> simp_all
    simp only [e, if_true, if_neg hg]
    exact Ev.now _
end Go.Proofs.YtdlblokojlhmbaaDoor.MP
end
section
set_option linter.unusedVariables false
set_option linter.unusedSimpArgs false
namespace Go.Proofs.YtdlblokojlhmbaaDoor.MP
open Go.RowKit Go.Proofs.YtdlblokojlhmbaaDoorW.PrintWords Go.Proofs.YtdlblokojlhmbaaDoor.BL Go.Proofs.YtdlblokojlhmbaaDoor.Q
theorem tw_app {q : Int → Bool} : ∀ (n r : Tx), n.all q = true → (r = [] ∨ q (r.headD 0) = false) → (n ++ r).takeWhile q = n ∧ (n ++ r).dropWhile q = r
  | [], r, _, h => by
    cases r with
    | nil => exact ⟨rfl, rfl⟩
    | cons c r =>
      have hc : q c = false := by simpa using h
      simp [List.takeWhile_cons, List.dropWhile_cons, hc]
  | a :: n, r, hn, h => by
    simp only [List.all_cons, Bool.and_eq_true] at hn
    have := tw_app n r hn.2 h
    simp only [List.cons_append, List.takeWhile_cons, List.dropWhile_cons, if_pos hn.1, this.1, this.2, and_self]
theorem find_sg (c : Int) (r : Tx) (h : sg c ≠ []) : find (sg c ++ r) = some (c, (sg c).length) := by
  unfold sg at h ⊢
  unfold find
  split
  · rename_i h; subst h; simp [List.isPrefixOf]
  split
  · rename_i h; subst h; simp [List.isPrefixOf]
  split
  · rename_i h; subst h; simp [List.isPrefixOf]
  split
  · rename_i h; subst h; simp [List.isPrefixOf]
  · rename_i h1 h2 h3 h4
    rw [if_neg h1, if_neg h2, if_neg h3, if_neg h4] at h
    exact absurd rfl h
theorem sg_head (c : Int) (h : sg c ≠ []) : ∃ t, sg c = 38 :: t ∧ ∀ x ∈ sg c, x ≠ 34 ∧ x ≠ 60 := by
  unfold sg at h ⊢
  split
  · exact ⟨_, rfl, by simp⟩
  split
  · exact ⟨_, rfl, by simp⟩
  split
  · exact ⟨_, rfl, by simp⟩
  split
  · exact ⟨_, rfl, by simp⟩
  · rename_i h1 h2 h3 h4
    rw [if_neg h1, if_neg h2, if_neg h3, if_neg h4] at h
    exact absurd rfl h
theorem sg_nil {c : Int} (h : sg c = []) : c ≠ 60 ∧ c ≠ 62 ∧ c ≠ 38 ∧ c ≠ 34 := by
  unfold sg at h
  refine ⟨?_, ?_, ?_, ?_⟩ <;> rintro rfl <;> simp at h
theorem mean_esc1 (c : Int) (r : Tx) (hp : plain c = true) : mean (esc1 c ++ r) 0 = (mean r 0).map (c :: ·) := by
  unfold esc1
  by_cases h : sg c = []
  · rw [if_pos h]
    have hc := sg_nil h
    simp only [List.singleton_append, mean, if_pos (show plain c = true ∧ c ≠ 60 from ⟨hp, hc.1⟩), if_neg hc.2.2.1]
  · rw [if_neg h]
    obtain ⟨t, ht, _⟩ := sg_head c h
    have hf := find_sg c r h
    rw [ht] at hf ⊢
    simp only [List.cons_append] at hf ⊢
    simp only [mean, if_pos (show plain 38 = true ∧ (38 : Int) ≠ 60 from ⟨rfl, by omega⟩), if_true, hf]
    rw [mean_drop]
    simp
theorem escP_back : ∀ (v e : Tx), escP v = some e → mean e 0 = some v ∧ ∀ x ∈ e, x ≠ 34 ∧ x ≠ 60
  | [], e, h => by obtain rfl := Option.some.inj h; exact ⟨rfl, by simp⟩
  | c :: r, e, h => by
    simp only [escP] at h
    split at h
    · rename_i hp
      obtain ⟨m, h1, rfl⟩ := Option.map_eq_some_iff.1 h
      have ih := escP_back r m h1
      refine ⟨by rw [mean_esc1 c m hp, ih.1]; rfl, ?_⟩
      intro x hx
      rcases List.mem_append.1 hx with hx | hx
      · unfold esc1 at hx
        split at hx
        · rename_i hs
          have hc := sg_nil hs
          rw [List.mem_singleton.1 hx]
          exact ⟨hc.2.2.2, hc.1⟩
        · rename_i hs
          obtain ⟨t, _, ha⟩ := sg_head c hs
          exact ha x hx
      · exact ih.2 x hx
    · simp at h
theorem isName_all {n : Tx} (h : isName n = true) : n.all part = true ∧ n ≠ [] := by
  simp only [isName, Bool.and_eq_true, decide_eq_true_iff] at h
  exact ⟨h.2, h.1.1.1⟩
theorem attr_back {n v e : Tx} (hn : isName n = true) (he : escP v = some e) (t : Tx) : attr (n ++ ([61, 34] ++ e ++ [34] ++ t)) = some ((n, v), t) := by
  have h1 := tw_app (q := part) n ([61, 34] ++ e ++ [34] ++ t) (isName_all hn).1 (.inr rfl)
  have hb := escP_back v e he
  have h2 := tw_app (q := (· != 34)) e (34 :: t) (by rw [List.all_eq_true]; intro x hx; exact bne_iff_ne.2 (hb.2 x hx).1) (.inr rfl)
  unfold attr
  rw [h1.1, h1.2]
  have e1 : [61, 34].isPrefixOf ([61, 34] ++ e ++ [34] ++ t) = true := by simp [List.isPrefixOf]
  have e2 : ([61, 34] ++ e ++ [34] ++ t).drop 2 = e ++ 34 :: t := by simp
  rw [if_pos ⟨hn, e1⟩, e2, h2.1, h2.2, hb.1]
theorem attrs_back : ∀ (ats : List (Tx × Tx)) (s : Tx) (d : Nat) (t : Tx), attsP ats = some s → ats.all (fun x => isName x.1) = true → ats.length ≤ d → attrs d (s ++ 62 :: t) = some (ats, 62 :: t)
  | [], s, d, t, h, _, _ => by
    obtain rfl := Option.some.inj h
    cases d with
    | zero => rfl
    | succ d => simp [attrs, List.isPrefixOf]
  | x :: r, s, d, t, h, hn, hd => by
    simp only [List.length_cons] at hd
    obtain ⟨d, rfl⟩ : ∃ q, d = q + 1 := ⟨d - 1, by omega⟩
    simp only [attsP] at h
    simp only [List.all_cons, Bool.and_eq_true] at hn
    cases he : escP x.2 with
    | none => rw [he] at h; simp at h
    | some e =>
      rw [he] at h
      obtain ⟨m, h1, rfl⟩ := Option.map_eq_some_iff.1 h
      have ih := attrs_back r m d t h1 hn.2 (by omega)
      have e0 : [32] ++ x.1 ++ [61, 34] ++ e ++ [34] ++ m ++ 62 :: t = 32 :: (x.1 ++ ([61, 34] ++ e ++ [34] ++ (m ++ 62 :: t))) := by simp
      simp only [attrs]
      rw [e0]
      have e1 : [32].isPrefixOf (32 :: (x.1 ++ ([61, 34] ++ e ++ [34] ++ (m ++ 62 :: t)))) = true := by simp [List.isPrefixOf]
      rw [if_pos e1, List.drop_succ_cons, List.drop_zero, attr_back hn.1 he, ]
      simp only
      rw [ih]
      rfl
theorem attsP_head (ats : List (Tx × Tx)) (s : Tx) (h : attsP ats = some s) : s = [] ∨ s.headD 0 = 32 := by
  cases ats with
  | nil => obtain rfl := Option.some.inj h; exact .inl rfl
  | cons x r =>
    simp only [attsP] at h
    cases he : escP x.2 with
    | none => rw [he] at h; simp at h
    | some e =>
      rw [he] at h
      obtain ⟨m, h1, rfl⟩ := Option.map_eq_some_iff.1 h
      exact .inr rfl
theorem attsP_len : ∀ (ats : List (Tx × Tx)) (s : Tx), attsP ats = some s → ats.length ≤ s.length
  | [], s, h => by simp
  | x :: r, s, h => by
    simp only [attsP] at h
    cases he : escP x.2 with
    | none => rw [he] at h; simp at h
    | some e =>
      rw [he] at h
      obtain ⟨m, h1, rfl⟩ := Option.map_eq_some_iff.1 h
      have := attsP_len r m h1
      simp
      omega
/-- A mark that has bytes, and these. -/
theorem first_back {m : M} {b : Tx} (h : writeP m = (b, 0)) (t : Tx) (ht : m.kind = 3 → t = [] ∨ t.headD 0 = 60) : first (b ++ t) = some ([setAt 0 m], t) ∧ b ≠ [] ∧ (m.kind ≠ 3 → b.headD 0 = 60) := by
  unfold writeP at h
  split at h
  · simp at h
  split at h
  · rename_i h3
    split at h
    · rename_i hg
      obtain ⟨hn, ha, htx⟩ := hg
      cases he : escP m.text with
      | none => rw [he] at h; simp at h
      | some e =>
        rw [he] at h
        obtain ⟨rfl, _⟩ := Prod.mk.inj h
        have hb := escP_back _ _ he
        have hne : e ≠ [] := by
          rintro rfl
          exact htx (Option.some.inj hb.1).symm
        obtain ⟨x, r, rfl⟩ := List.exists_cons_of_ne_nil hne
        have hx := hb.2 x (by simp)
        refine ⟨?_, by simp, fun h => absurd h3 h⟩
        have h2 := tw_app (q := (· != 60)) (x :: r) t (by rw [List.all_eq_true]; intro y hy; exact bne_iff_ne.2 (hb.2 y hy).2) ((ht h3).imp id (fun h => bne_eq_false_iff_eq.2 h))
        have n60 : ((60 : Int) == x) = false := beq_eq_false_iff_ne.2 (fun h => hx.2 h.symm)
        unfold first
        rw [h2.1, h2.2, hb.1]
        have p1 : [60, 47].isPrefixOf (x :: r ++ t) = false := by simp [List.isPrefixOf, n60]
        have p2 : [60].isPrefixOf (x :: r ++ t) = false := by simp [List.isPrefixOf, n60]
        rw [p1, p2]
        simp [setAt, h3, hn, ha]
    · simp at h
  split at h
  · rename_i h3 h2
    split at h
    · rename_i hg
      obtain ⟨hn, ha, htx⟩ := hg
      obtain ⟨rfl, _⟩ := Prod.mk.inj h
      refine ⟨?_, by simp, fun _ => rfl⟩
      have hw := tw_app (q := part) m.name (62 :: t) (isName_all hn).1 (.inr rfl)
      have e0 : [60, 47] ++ m.name ++ [62] ++ t = 60 :: 47 :: (m.name ++ 62 :: t) := by simp
      rw [e0]
      unfold first
      have p1 : [60, 47].isPrefixOf (60 :: 47 :: (m.name ++ 62 :: t)) = true := by simp [List.isPrefixOf]
      rw [if_pos p1]
      simp only [List.drop_succ_cons, List.drop_zero, hw.1, hw.2]
      have p2 : [62].isPrefixOf (62 :: t) = true := by simp [List.isPrefixOf]
      rw [if_pos ⟨hn, p2⟩]
      simp [setAt, h2, ha, htx]
    · simp at h
  · rename_i hk h3 h2
    split at h
    · rename_i hg
      obtain ⟨hn, htx, hfa⟩ := hg
      cases hs : attsP m.atts with
      | none => rw [hs] at h; simp at h
      | some s =>
        rw [hs] at h
        obtain ⟨rfl, _⟩ := Prod.mk.inj h
        refine ⟨?_, by simp, fun _ => rfl⟩
        simp only [fineAtts, Bool.and_eq_true, decide_eq_true_iff, Bool.not_eq_true'] at hfa
        have hh := attsP_head _ _ hs
        have hw := tw_app (q := part) m.name (s ++ 62 :: t) (isName_all hn).1 (by
          right
          rcases hh with rfl | hh
          · rfl
          · cases s with
            | nil => rfl
            | cons x r => simp at hh; subst hh; rfl)
        have hlen := attsP_len _ _ hs
        have e0 : [60] ++ m.name ++ s ++ [62] ++ t = 60 :: (m.name ++ (s ++ 62 :: t)) := by simp
        rw [e0]
        obtain ⟨x, r, hxr⟩ := List.exists_cons_of_ne_nil (isName_all hn).2
        have hx47 : x ≠ 47 := by
          rintro rfl
          have := (isName_all hn).1
          rw [hxr] at this
          simp [part, letter] at this
        have p1 : [60, 47].isPrefixOf (60 :: (m.name ++ (s ++ 62 :: t))) = false := by
          rw [hxr]
          have : ((47 : Int) == x) = false := beq_eq_false_iff_ne.2 (fun h => hx47 h.symm)
          simp [List.isPrefixOf, this]
        have p2 : [60].isPrefixOf (60 :: (m.name ++ (s ++ 62 :: t))) = true := by simp [List.isPrefixOf]
        have ho : opn (m.name ++ (s ++ 62 :: t)) = some (m.name, m.atts, false, t) := by
          unfold opn
          rw [hw.1, hw.2, if_pos hn, attrs_back _ s _ t hs hfa.2 (by simp; omega)]
          have q1 : [47, 62].isPrefixOf (62 :: t) = false := by simp [List.isPrefixOf]
          have q2 : [62].isPrefixOf (62 :: t) = true := by simp [List.isPrefixOf]
          simp only [hfa.1.1, hfa.1.2, and_self, if_true, q1, q2, Bool.false_eq_true, if_false, List.drop_succ_cons, List.drop_zero]
        unfold first
        rw [p1, p2]
        simp only [Bool.false_eq_true, if_false, if_true, List.drop_succ_cons, List.drop_zero, ho]
        have hk1 : m.kind = 1 := by omega
        simp [setAt, hk1, htx]
    · simp at h
end Go.Proofs.YtdlblokojlhmbaaDoor.MP
end
section
set_option linter.unusedVariables false
set_option linter.unusedSimpArgs false
namespace Go.Proofs.YtdlblokojlhmbaaDoor.MP
open Go.RowKit Go.Proofs.YtdlblokojlhmbaaDoorW.PrintWords Go.Proofs.YtdlblokojlhmbaaDoor.BL Go.Proofs.YtdlblokojlhmbaaDoor.Q
def ofS (x : S38) : M := ⟨x.f0, x.f1, bytesOf x.f2, x.f3.map (fun a => (bytesOf a.f0, bytesOf a.f1)), bytesOf x.f4⟩
theorem toM_ofS (x : S38) : toM (ofS x) = x := by
  obtain ⟨a, b, c, d, e⟩ := x
  simp only [ofS, toM, str_bytes, S38.mk.injEq, true_and, List.map_map]
  refine ⟨?_, trivial⟩
  conv => rhs; rw [← List.map_id d]
  apply List.map_congr_left
  rintro ⟨u, v⟩ _
  simp [toA, str_bytes]
structure Big (m : M) : Prop where
  bn : BL m.name
  bt : BL m.text
  ba : ∀ x ∈ m.atts, BL x.1 ∧ BL x.2
  ln : m.name.length ≤ 140737488351232
  la : m.atts.length ≤ 4398046510976
  lt : m.text.length ≤ 140737488351232
  lv : ∀ x ∈ m.atts, x.1.length ≤ 140737488351232 ∧ x.2.length ≤ 140737488351232
theorem big_ofS {x : S38} (h : ok_T38 x) : Big (ofS x) := by
  obtain ⟨_, _, h2, ⟨h3, _, h4⟩, h5⟩ := h
  refine ⟨bl_bytes _, bl_bytes _, ?_, ?_, ?_, ?_, ?_⟩
  · intro y hy
    obtain ⟨a, _, rfl⟩ := List.mem_map.1 hy
    exact ⟨bl_bytes _, bl_bytes _⟩
  · show (bytesOf x.f2).length ≤ _; rw [bytesOf_length]; exact h2
  · show (x.f3.map _).length ≤ _; rw [List.length_map]; omega
  · show (bytesOf x.f4).length ≤ _; rw [bytesOf_length]; exact h5
  · intro y hy
    obtain ⟨a, ha, rfl⟩ := List.mem_map.1 hy
    have := h4 a ha
    show (bytesOf a.f0).length ≤ _ ∧ (bytesOf a.f1).length ≤ _
    rw [bytesOf_length, bytesOf_length]
    exact this
theorem large_l0 {m : M} (hb : Big m) : ∀ (d i : Nat) (n : Int), i + d = m.atts.length → 0 ≤ n → n ≤ 3000 →
    ∃ b, Ev (fun k => treenaillaw01_large.l0 k n (m.atts.map toA) (m.atts.length : Int) (i : Int)) b ∧ (b = false → ∀ x ∈ m.atts.drop i, x.1.length ≤ 3000 ∧ x.2.length ≤ 3000)
  | 0, i, n, hi, h0, h1 => by
    refine ⟨false, Ev.step (fun k => by rw [treenaillaw01_large.l0]) ?_, fun _ => ?_⟩
    · simp only [if_neg (show ¬ (i : Int) < (m.atts.length : Int) by omega)]
      exact Ev.now _
    · rw [List.drop_eq_nil_of_le (by omega)]
      simp
  | d + 1, i, n, hi, h0, h1 => by
    have hlt : i < m.atts.length := by omega
    have hx := hb.lv _ (List.getElem_mem hlt)
    have hla := hb.la
    have e : ∀ k, treenaillaw01_large.l0 (k + 1) n (m.atts.map toA) (m.atts.length : Int) (i : Int) = (if n + (m.atts[i].2.length : Int) + (m.atts[i].1.length : Int) > 3000 then some true else treenaillaw01_large.l0 k (n + (m.atts[i].2.length : Int) + (m.atts[i].1.length : Int)) (m.atts.map toA) (m.atts.length : Int) ((i + 1 : Nat) : Int)) := by
      intro k
      rw [treenaillaw01_large.l0]
      simp only [if_pos (show (i : Int) < (m.atts.length : Int) by omega), if_pos (show (0 : Int) ≤ (i : Int) by omega), List.length_map, rdA _ i hlt, toA, size_str, wrapS (x := (i : Int) + 1) (by omega) (by omega)]
      rw [wrapS (x := n + (m.atts[i].2.length : Int)) (by omega) (by omega), wrapS (x := n + (m.atts[i].2.length : Int) + (m.atts[i].1.length : Int)) (by omega) (by omega)]
      rfl
    by_cases hg : n + (m.atts[i].2.length : Int) + (m.atts[i].1.length : Int) > 3000
    · refine ⟨true, Ev.step e ?_, fun h => by cases h⟩
      simp only [if_pos hg]
      exact Ev.now _
    · obtain ⟨b, h2, h3⟩ := large_l0 hb d (i + 1) (n + (m.atts[i].2.length : Int) + (m.atts[i].1.length : Int)) (by omega) (by omega) (by omega)
      refine ⟨b, Ev.step e ?_, fun h => ?_⟩
      · simp only [if_neg hg]
        exact h2
      · rw [List.drop_eq_getElem_cons hlt]
        intro x hx
        rcases List.mem_cons.1 hx with rfl | hx
        · omega
        · exact h3 h x hx
theorem large_f {m : M} (hb : Big m) : ∃ b, Ev (fun k => treenaillaw01_large.f k m.kind m.at_ (strOfNums m.name) (m.atts.map toA) (strOfNums m.text)) b ∧ (b = false → Fits m) := by
  unfold treenaillaw01_large.f
  simp only [List.length_map, size_str]
  by_cases h1 : (m.atts.length : Int) > 100
  · refine ⟨true, ?_, fun h => by cases h⟩
    simp only [if_pos h1]
    refine Ev.step (fun k => by rw [treenaillaw01_large.j0]) ?_
    simp only [if_true]
    exact Ev.now _
  · simp only [if_neg h1]
    by_cases h2 : (m.text.length : Int) > 2000
    · refine ⟨true, ?_, fun h => by cases h⟩
      simp only [decide_eq_true h2]
      refine Ev.step (fun k => by rw [treenaillaw01_large.j0]) ?_
      simp only [if_true]
      exact Ev.now _
    · obtain ⟨b, h3, h4⟩ := large_l0 hb m.atts.length 0 0 (by omega) (by omega) (by omega)
      refine ⟨b, ?_, fun h => ?_⟩
      · simp only [decide_eq_false h2]
        refine Ev.step (fun k => by rw [treenaillaw01_large.j0]) ?_
        simp only [Bool.false_eq_true, if_false, List.length_map]
        exact h3
      · have h5 := h4 h
        rw [List.drop_zero] at h5
        exact ⟨hb.bn, hb.bt, hb.ba, by omega, by omega, fun x hx => by have := h5 x hx; omega⟩
theorem ref_toM (m : M) (hl : m.atts.length ≤ 1000000000) : Ev (fun k => treenaillaw01_ref.f k m.kind m.at_ (strOfNums m.name) (m.atts.map toA) (strOfNums m.text)) (m.kind, m.at_, strOfNums m.name, m.atts.map toB, strOfNums m.text) := by
  have := ref_f m.kind m.at_ (strOfNums m.name) (strOfNums m.text) (m.atts.map toA) (by rw [List.length_map]; exact hl)
  rw [List.map_map] at this
  exact this
theorem rdR (ms : List M) (i : Nat) (hi : i < ms.length) : rd_T34 (ms.map toR) (i : Int) = toR ms[i] := by
  unfold rd_T34
  rw [show ((i : Int)).toNat = i from rfl, List.getD_eq_getElem?_getD, List.getElem?_map, List.getElem?_eq_getElem hi]
  rfl
/-! ### marks that are read -/
theorem first_atts {l : Tx} {y : List M × Tx} (h : first l = some y) : ∀ m ∈ y.1, m.atts.length ≤ 64 := by
  unfold first at h
  split at h
  · split at h
    · obtain rfl := Option.some.inj h
      intro m hm
      rw [List.mem_singleton.1 hm]
      simp
    · simp at h
  split at h
  · cases hx : opn (l.drop 1) with
    | none => rw [hx] at h; simp at h
    | some x =>
      rw [hx] at h
      obtain ⟨n, ats, both, t⟩ := x
      obtain rfl := Option.some.inj h
      have h64 : ats.length ≤ 64 := by
        unfold opn at hx
        split at hx
        · cases hz : attrs (l.drop 1).length ((l.drop 1).dropWhile part) with
          | none => rw [hz] at hx; simp at hx
          | some z =>
            rw [hz] at hx
            simp only at hx
            split at hx
            · rename_i hg
              split at hx
              · obtain ⟨rfl, rfl, _⟩ := Option.some.inj hx; exact hg.1
              split at hx
              · obtain ⟨rfl, rfl, _⟩ := Option.some.inj hx; exact hg.1
              · simp at hx
            · simp at hx
        · simp at hx
      intro m hm
      rcases List.mem_cons.1 hm with rfl | hm
      · exact h64
      · split at hm
        · rw [List.mem_singleton.1 hm]; simp
        · simp at hm
  · cases hm : mean (l.takeWhile (· != 60)) 0 with
    | none => rw [hm] at h; simp at h
    | some v =>
      rw [hm] at h
      obtain rfl := Option.some.inj h
      intro m hm
      rw [List.mem_singleton.1 hm]
      simp
theorem read_facts : ∀ (d : Nat) (l : Tx) (a : Int), BL l → (∀ e, read d l a = .inl e → a ≤ e) ∧ (∀ r, read d l a = .inr r → (∀ m ∈ r, m.atts.length ≤ 64) ∧ r.length ≤ 2 * l.length)
  | d, [], a, hl => by
    cases d <;> exact ⟨fun e h => by simp [read] at h, fun r h => by obtain rfl := Sum.inr.inj h; simp⟩
  | 0, c :: l, a, hl => by
    refine ⟨fun e h => ?_, fun r h => by simp [read] at h⟩
    obtain rfl := Sum.inl.inj h
    exact Int.le_refl _
  | d + 1, c :: l, a, hl => by
    simp only [read]
    cases hf : first (c :: l) with
    | none =>
      refine ⟨fun e h => ?_, fun r h => by simp at h⟩
      obtain rfl := Sum.inl.inj h
      exact Int.le_refl _
    | some y =>
      have hb := first_bl hl (by simp) hf
      have ih := read_facts d y.2 (a + ((l.length : Int) + 1 - (y.2.length : Int))) hb.1
      have hlen : (c :: l).length = l.length + 1 := by simp
      simp only
      cases hz : read d y.2 (a + ((l.length : Int) + 1 - (y.2.length : Int))) with
      | inl e =>
        refine ⟨fun e' h => ?_, fun r h => by simp at h⟩
        obtain rfl := Sum.inl.inj h
        have := ih.1 e hz
        omega
      | inr z =>
        refine ⟨fun e' h => by simp at h, fun r h => ?_⟩
        obtain rfl := Sum.inr.inj h
        have h2 := ih.2 z hz
        refine ⟨fun m hm => ?_, by simp; omega⟩
        rcases List.mem_append.1 hm with hm | hm
        · obtain ⟨m', hm', rfl⟩ := List.mem_map.1 hm
          exact first_atts hf m' hm'
        · exact h2.1 m hm
/-! ### there and back -/
def bytesW (m : M) : Tx := (writeP m).1
def okSeq : List M → Prop
  | [] => True
  | m :: r => (writeP m).2 = 0 ∧ (∀ b, r.head? = some b → ¬ (m.kind = 3 ∧ b.kind = 3)) ∧ okSeq r
theorem okSeq_snoc {m : M} (hm : (writeP m).2 = 0) : ∀ ws : List M, okSeq ws → (∀ a, ws.getLast? = some a → ¬ (a.kind = 3 ∧ m.kind = 3)) → okSeq (ws ++ [m])
  | [], _, _ => ⟨hm, by simp, trivial⟩
  | x :: r, h, hl => by
    refine ⟨h.1, ?_, okSeq_snoc hm r h.2.2 ?_⟩
    · intro b hb
      cases r with
      | nil => obtain rfl := Option.some.inj hb; exact hl x rfl
      | cons y r => exact h.2.1 b hb
    · intro a ha
      cases r with
      | nil => simp at ha
      | cons y r => exact hl a (by simpa using ha)
theorem read_back : ∀ (ws : List M), okSeq ws → ∀ (d : Nat) (a : Int), (ws.flatMap bytesW).length ≤ d → ∃ r, read d (ws.flatMap bytesW) a = .inr r ∧ r.map (setAt 0) = ws.map (setAt 0)
  | [], _, d, a, _ => ⟨[], by cases d <;> rfl, rfl⟩
  | m :: ws, h, d, a, hd => by
    obtain ⟨h1, h2, h3⟩ := h
    have hw : writeP m = (bytesW m, 0) := by unfold bytesW; rw [← h1]
    have hf := first_back hw (ws.flatMap bytesW) (by
      intro hk
      cases ws with
      | nil => exact .inl rfl
      | cons b ws =>
        right
        have hb := h2 b rfl
        have hwb : writeP b = (bytesW b, 0) := by unfold bytesW; rw [← h3.1]
        have hfb := first_back hwb [] (fun _ => .inl rfl)
        have := hfb.2.2 (fun hk2 => hb ⟨hk, hk2⟩)
        rw [List.flatMap_cons]
        cases hbb : bytesW b with
        | nil => exact absurd hbb hfb.2.1
        | cons x r => rw [hbb] at this; exact this)
    rw [List.flatMap_cons] at hd ⊢
    cases hbm : bytesW m with
    | nil => exact absurd hbm hf.2.1
    | cons x r =>
      rw [hbm] at hf hd
      simp only [List.cons_append, List.length_cons, List.length_append] at hd
      obtain ⟨d, rfl⟩ : ∃ q, d = q + 1 := ⟨d - 1, by omega⟩
      obtain ⟨z, hz, hzw⟩ := read_back ws h3 d (a + (((r ++ ws.flatMap bytesW).length : Int) + 1 - ((ws.flatMap bytesW).length : Int))) (by omega)
      refine ⟨setAt a m :: z, ?_, ?_⟩
      · simp only [List.cons_append] at hf ⊢
        simp only [read, hf.1, hz]
        rfl
      · simp only [List.map_cons, hzw]
        rfl
end Go.Proofs.YtdlblokojlhmbaaDoor.MP
end
set_option linter.unusedVariables false
set_option linter.unusedSimpArgs false
namespace Go.Proofs.YtdlblokojlhmbaaDoor.Pure
open Go.RowKit Go.Proofs.YtdlblokojlhmbaaDoor.Q Go.Proofs.YtdlblokojlhmbaaDoorW.PrintWords Go.Proofs.YtdlblokojlhmbaaDoorW.PrintLast Go.Proofs.YtdlblokojlhmbaaDoor.BL Go.Proofs.YtdlblokojlhmbaaDoor.MP

theorem back_l1 (ws r : List M) (hw : ∀ m ∈ ws, m.atts.length ≤ 100000) (hr : r.map (setAt 0) = ws.map (setAt 0)) (hl : r.length ≤ 1000000) : ∀ (d i : Nat), i + d = r.length → Ev (fun k => treenaillaw01_MarkBack.l1 k (ws.map toR) (r.map toM) (r.length : Int) (i : Int)) true
  | 0, i, hi => by
    refine Ev.step (fun k => by rw [treenaillaw01_MarkBack.l1]) ?_
    simp only [if_neg (show ¬ (i : Int) < (r.length : Int) by omega)]
    exact Ev.bind opens_f (Ev.now _)
  | d + 1, i, hi => by
    refine Ev.step (fun k => by rw [treenaillaw01_MarkBack.l1]) ?_
    have hlt : i < r.length := by omega
    have hlen : ws.length = r.length := by have := congrArg List.length hr; simpa using this.symm
    have hlt2 : i < ws.length := by omega
    have e : setAt 0 r[i] = setAt 0 ws[i] := by
      have h1 := congrArg (fun z => z[i]?) hr
      simp only [List.getElem?_map, List.getElem?_eq_getElem hlt, List.getElem?_eq_getElem hlt2, Option.map_some, Option.some.injEq] at h1
      exact h1
    have h64 := hw _ (List.getElem_mem hlt2)
    simp only [if_pos (show (i : Int) < (r.length : Int) by omega), if_pos (show (0 : Int) ≤ (i : Int) by omega), List.length_map, rd_map r i hlt, rdR ws i hlt2, if_pos (show (i : Int) < (ws.length : Int) by omega), wrapS (x := (i : Int) + 1) (by omega) (by omega)]
    generalize r[i] = a at e
    generalize ws[i] = b at e h64
    obtain ⟨k1, a1, n1, t1, x1⟩ := a
    obtain ⟨k2, a2, n2, t2, x2⟩ := b
    simp only [setAt, M.mk.injEq, true_and] at e
    obtain ⟨rfl, rfl, rfl, rfl⟩ := e
    refine Ev.bind (ref_toM ⟨k1, a1, n1, t1, x1⟩ (by simp only at h64 ⊢; omega)) ?_
    refine Ev.bind (same_f k1 a1 a2 (strOfNums n1) (strOfNums x1) (t1.map toB) (by simp only at h64; rw [List.length_map]; omega) false (fun h => by cases h)) ?_
    simp only [if_true]
    exact back_l1 ws r hw hr hl d (i + 1) (by omega)
theorem back_end (ws : List M) (ho : okSeq ws) (hb : BL (ws.flatMap bytesW)) (hs : (ws.flatMap bytesW).length ≤ 20000) (hw : ∀ m ∈ ws, m.atts.length ≤ 100000) :
    Ev (fun k => (mark_Read.f k (strOfNums (ws.flatMap bytesW))).bind fun bt378 => (if bt378.2.2 = 0 then (treenaillaw01_MarkBack.j2 k (ws.map toR) bt378.1 ((bt378.1.length : Int) != ((ws.map toR).length : Int))) else (treenaillaw01_MarkBack.j2 k (ws.map toR) bt378.1 true))) true := by
  obtain ⟨r, h1, h2⟩ := read_back ws ho (ws.flatMap bytesW).length 0 (Nat.le_refl _)
  have hrd := read_f hb hs
  have hf := (read_facts _ _ 0 hb).2 r h1
  rw [h1] at hrd
  refine Ev.bind hrd ?_
  have hlen : ws.length = r.length := by have := congrArg List.length h2; simpa using this.symm
  have e : ((r.length : Int) != (ws.length : Int)) = false := by simp [hlen]
  simp only [readR, List.nil_append, if_true, List.length_map, e]
  refine Ev.step (fun k => by rw [treenaillaw01_MarkBack.j2]) ?_
  simp only [Bool.false_eq_true, if_false, List.length_map]
  exact back_l1 ws r hw h2 (by omega) r.length 0 (by omega)
theorem writeP_bl {m : M} (hf : Fits m) : BL (bytesW m) := by
  unfold bytesW writeP
  have hats : ∀ (ats : List (Tx × Tx)) (s : Tx), (∀ x ∈ ats, BL x.1 ∧ BL x.2) → attsP ats = some s → BL s := by
    intro ats
    induction ats with
    | nil => intro s _ h; obtain rfl := Option.some.inj h; exact BL.nil
    | cons x r ih =>
      intro s hb h
      simp only [attsP] at h
      cases he : escP x.2 with
      | none => rw [he] at h; simp at h
      | some e =>
        rw [he] at h
        obtain ⟨q, h1, rfl⟩ := Option.map_eq_some_iff.1 h
        have hx := hb x (by simp)
        exact BL.append (BL.append (BL.append (BL.append (BL.append (bl_dec rfl) hx.1) (bl_dec rfl)) (escP_bl _ _ hx.2 he)) (bl_dec rfl)) (ih q (fun y hy => hb y (by simp [hy])) h1)
  split
  · exact BL.nil
  split
  · split
    · cases he : escP m.text with
      | none => exact BL.nil
      | some e => exact escP_bl _ _ hf.bt he
    · exact BL.nil
  split
  · split
    · exact BL.append (BL.append (bl_dec rfl) hf.bn) (bl_dec rfl)
    · exact BL.nil
  · split
    · cases he : attsP m.atts with
      | none => exact BL.nil
      | some s => exact BL.append (BL.append (BL.append (bl_dec rfl) hf.bn) (hats _ _ hf.ba he)) (bl_dec rfl)
    · exact BL.nil
theorem back_l0 (L : List M) (hL : ∀ m ∈ L, Big m) (hl : L.length ≤ 40) : ∀ (d i : Nat) (ws : List M), i + d = L.length → okSeq ws → BL (ws.flatMap bytesW) → (ws.flatMap bytesW).length ≤ 20000 → (∀ m ∈ ws, m.atts.length ≤ 100000) → ws.length ≤ i →
    Ev (fun k => treenaillaw01_MarkBack.l0 k (strOfNums (ws.flatMap bytesW)) (ws.map toR) (L.map toM) (L.length : Int) (i : Int)) true
  | 0, i, ws, hi, ho, hb, hs, hw, hwl => by
    refine Ev.step (fun k => by rw [treenaillaw01_MarkBack.l0]) ?_
    simp only [if_neg (show ¬ (i : Int) < (L.length : Int) by omega)]
    exact back_end ws ho hb hs hw
  | d + 1, i, ws, hi, ho, hb, hs, hw, hwl => by
    refine Ev.step (fun k => by rw [treenaillaw01_MarkBack.l0]) ?_
    have hlt : i < L.length := by omega
    have hB := hL _ (List.getElem_mem hlt)
    have go : ∀ (b : Bool) (e7 : ByteArray) (m : M), b = true → Ev (fun k => treenaillaw01_MarkBack.j1 k (strOfNums (ws.flatMap bytesW)) (ws.map toR) e7 (L.map toM) (L.length : Int) (i : Int) b m.kind m.at_ (strOfNums m.name) (m.atts.map toA) (strOfNums m.text)) true := by
      intro b e7 m hbt
      subst hbt
      refine Ev.step (fun k => by rw [treenaillaw01_MarkBack.j1]) ?_
      simp only [if_true, wrapS (x := (i : Int) + 1) (by omega) (by omega)]
      exact back_l0 L hL hl d (i + 1) ws (by omega) ho hb hs hw (by omega)
    simp only [if_pos (show (i : Int) < (L.length : Int) by omega), if_pos (show (0 : Int) ≤ (i : Int) by omega), List.length_map, rd_map L i hlt]
    generalize L[i] = m at hB
    obtain ⟨b, h1, h2⟩ := large_f hB
    refine Ev.bind h1 ?_
    cases b with
    | true =>
      simp only [if_true]
      exact Ev.bind opens_f (Ev.now _)
    | false =>
      have hf := h2 rfl
      simp only [Bool.false_eq_true, if_false]
      refine Ev.bind (write_f hf hB.ln) ?_
      by_cases hz : (writeP m).2 = 0
      · have hz' : (pr (writeP m)).2 = 0 := hz
        simp only [if_pos hz']
        have fin : (∀ a, ws.getLast? = some a → ¬ (a.kind = 3 ∧ m.kind = 3)) → Ev (fun k => treenaillaw01_MarkBack.j1 k (strOfNums (ws.flatMap bytesW)) (ws.map toR) (strOfNums (writeP m).1) (L.map toM) (L.length : Int) (i : Int) false m.kind m.at_ (strOfNums m.name) (m.atts.map toA) (strOfNums m.text)) true := by
          intro hlast
          refine Ev.step (fun k => by rw [treenaillaw01_MarkBack.j1]) ?_
          have hbw := writeP_bl hf
          have hwl2 : (writeP m).1.length ≤ 1000000000000 := by
            have hel : ∀ e, escP m.text = some e → e.length ≤ 6 * m.text.length := fun e he => escP_len _ _ he
            have hal : ∀ (ats : List (Tx × Tx)) (s : Tx), (∀ x ∈ ats, x.1.length ≤ 10000 ∧ x.2.length ≤ 10000) → attsP ats = some s → s.length ≤ 100000 * ats.length := by
              intro ats
              induction ats with
              | nil => intro s _ h; obtain rfl := Option.some.inj h; simp
              | cons x r ih =>
                intro s hv h
                simp only [attsP] at h
                cases he : escP x.2 with
                | none => rw [he] at h; simp at h
                | some e =>
                  rw [he] at h
                  obtain ⟨q, h1, rfl⟩ := Option.map_eq_some_iff.1 h
                  have hx := hv x (by simp)
                  have := escP_len _ _ he
                  have := ih q (fun y hy => hv y (by simp [hy])) h1
                  simp
                  omega
            have hlt := hf.lt
            have hla := hf.la
            unfold writeP
            split
            · simp
            split
            · split
              · cases he : escP m.text with
                | none => simp
                | some e => have := hel e he; show e.length ≤ _; omega
              · simp
            split
            · split
              · rename_i hg
                have := isName_len hg.1
                simp
                omega
              · simp
            · split
              · rename_i hg
                have := isName_len hg.1
                cases he : attsP m.atts with
                | none => simp
                | some s => have := hal _ _ hf.lv he; simp; omega
              · simp
          simp only [Bool.false_eq_true, if_false, size_str, if_pos (show (ws.flatMap bytesW).length + (writeP m).1.length ≤ 9223372036854775807 by omega), str_append]
          refine Ev.bind (ref_toM m (by have := hf.la; omega)) ?_
          simp only [List.length_map, if_pos (show ws.length < 1954687338268 by omega), size_str]
          by_cases h20 : ((ws.flatMap bytesW ++ (writeP m).1).length : Int) > 20000
          · simp only [if_pos h20]
            exact Ev.bind opens_f (Ev.now _)
          · simp only [if_neg h20, wrapS (x := (i : Int) + 1) (by omega) (by omega)]
            have e1 : (ws ++ [m]).flatMap bytesW = ws.flatMap bytesW ++ (writeP m).1 := by simp [bytesW]
            have := back_l0 L hL hl d (i + 1) (ws ++ [m]) (by omega) (okSeq_snoc hz ws ho hlast) (by rw [e1]; exact BL.append hb hbw) (by rw [e1]; omega) (by
              intro x hx
              rcases List.mem_append.1 hx with hx | hx
              · exact hw x hx
              · rw [List.mem_singleton.1 hx]; have := hf.la; omega) (by simp; omega)
            rw [e1, List.map_append] at this
            exact this
        by_cases hwp : (ws.length : Int) > 0
        · simp only [if_pos hwp]
          by_cases hk : (toM m).f0 = 3
          · simp only [if_pos hk, wrapS (x := (ws.length : Int) - 1) (by omega) (by omega), if_pos (show (0 : Int) ≤ (ws.length : Int) - 1 by omega), if_pos (show (ws.length : Int) - 1 < (ws.length : Int) by omega)]
            rw [show (ws.length : Int) - 1 = ((ws.length - 1 : Nat) : Int) by omega]
            have hlt2 : ws.length - 1 < ws.length := by omega
            rw [rdR ws (ws.length - 1) hlt2]
            by_cases hq : (toR ws[ws.length - 1]).f0 = 3
            · have e : ((toR ws[ws.length - 1]).f0 == 3) = true := beq_iff_eq.2 hq
              simp only [e]
              exact go true _ m rfl
            · have e : ((toR ws[ws.length - 1]).f0 == 3) = false := beq_eq_false_iff_ne.2 hq
              simp only [e]
              refine fin ?_
              intro a ha
              rw [List.getLast?_eq_getElem?, List.getElem?_eq_getElem hlt2] at ha
              obtain rfl := Option.some.inj ha
              exact fun h => hq h.1
          · simp only [if_neg hk]
            exact fin (fun a _ h => hk h.2)
        · simp only [if_neg hwp]
          have : ws = [] := List.length_eq_zero_iff.1 (by omega)
          subst this
          exact fin (fun a h => by simp at h)
      · have hz' : ¬ (pr (writeP m)).2 = 0 := hz
        simp only [if_neg hz']
        exact go true _ m rfl
theorem MarkBack : ∀ (x0 : List (S38)), (x0.length * 72 ≤ 140737488351232 ∧ x0.length ≤ 9223372036854775807 ∧ ∀ a_ ∈ x0, ok_T38 a_) → ∃ k, treenaillaw01_MarkBack.f k x0 = some true := by
  rintro x0 ⟨_, _, ho⟩
  have hx : x0 = (x0.map ofS).map toM := by
    rw [List.map_map]
    conv => lhs; rw [← List.map_id x0]
    exact List.map_congr_left (fun a _ => (toM_ofS a).symm)
  have hB : ∀ m ∈ x0.map ofS, Big m := by
    intro m hm
    obtain ⟨a, ha, rfl⟩ := List.mem_map.1 hm
    exact big_ofS (ho a ha)
  rw [hx]
  generalize x0.map ofS = L at hB
  have h : Ev (fun k => treenaillaw01_MarkBack.f k (L.map toM)) true := by
    unfold treenaillaw01_MarkBack.f
    simp only [List.length_map]
    by_cases hg : (L.length : Int) > 40
    · simp only [if_pos hg]
      exact Ev.bind opens_f (Ev.now _)
    · simp only [if_neg hg]
      exact back_l0 L hB (by omega) L.length 0 [] (by omega) trivial BL.nil (by simp) (by simp) (by simp)
  exact h.rounds
end Go.Proofs.YtdlblokojlhmbaaDoor.Pure
