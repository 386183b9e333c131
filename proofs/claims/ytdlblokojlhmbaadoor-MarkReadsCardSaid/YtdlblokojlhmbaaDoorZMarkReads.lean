/- Whatever the text: mark.Read gives the reference's marks, or the same place at which it has none: the pure statement. -/
import Derived.Lib.Bytes
import Derived.Test.YtdlblokojlhmbaaDoorV0
import Derived.Test.YtdlblokojlhmbaaDoorSx0
import Derived.Test.YtdlblokojlhmbaaDoorSx2
import Derived.Test.YtdlblokojlhmbaaDoorSx3
import Derived.Test.YtdlblokojlhmbaaDoorSx4
import Derived.Test.YtdlblokojlhmbaaDoorSx5
import Derived.Test.YtdlblokojlhmbaaDoorSx6
import Derived.Test.YtdlblokojlhmbaaDoorSx7
import Derived.Test.YtdlblokojlhmbaaDoorSx8
import Derived.Test.YtdlblokojlhmbaaDoorSx9
import Derived.Test.YtdlblokojlhmbaaDoorSx10
import Derived.Test.YtdlblokojlhmbaaDoorSx11
import Derived.Test.YtdlblokojlhmbaaDoorSTabs
import Derived.Test.YtdlblokojlhmbaaDoorSBl2
set_option linter.unusedVariables false
set_option linter.unusedSimpArgs false
section
set_option linter.unusedVariables false
set_option linter.unusedSimpArgs false
namespace Go.Proofs.YtdlblokojlhmbaaDoor.BL
open Go.RowKit Go.Proofs.YtdlblokojlhmbaaDoorW.PrintWords
/-- Each is a byte. -/
def BL (l : List Int) : Prop := ∀ x ∈ l, 0 ≤ x ∧ x < 256
theorem BL.nil : BL [] := by simp [BL]
theorem BL.cons {x : Int} {l : List Int} (h : 0 ≤ x ∧ x < 256) (hl : BL l) : BL (x :: l) := by
  intro y hy
  rcases List.mem_cons.1 hy with rfl | hy
  · exact h
  · exact hl y hy
theorem BL.take {l : List Int} (h : BL l) (n : Nat) : BL (l.take n) := fun x hx => h x (List.mem_of_mem_take hx)
theorem BL.drop {l : List Int} (h : BL l) (n : Nat) : BL (l.drop n) := fun x hx => h x (List.mem_of_mem_drop hx)
theorem BL.getD {l : List Int} (h : BL l) (n : Nat) : 0 ≤ l.getD n 0 ∧ l.getD n 0 < 256 := by
  rw [List.getD_eq_getElem?_getD]
  cases e : l[n]? with
  | none => simp
  | some x => exact h x (List.mem_of_getElem? e)
theorem bl_bytes (s : ByteArray) : BL (bytesOf s) := by
  intro x hx
  simp only [bytesOf, List.mem_map] at hx
  obtain ⟨b, _, rfl⟩ := hx
  have := b.toNat_lt
  omega
theorem str_bytes (s : ByteArray) : strOfNums (bytesOf s) = s := by
  apply ByteArray.ext
  apply Array.ext'
  rw [Go.strOfNums_data]
  simp only [bytesOf, List.map_map]
  conv => rhs; rw [← List.map_id s.data.toList]
  apply List.map_congr_left
  intro b _
  simp [Function.comp]
theorem bytes_str {l : List Int} (h : BL l) : bytesOf (strOfNums l) = l := by
  simp only [bytesOf, Go.strOfNums_data, List.map_map]
  conv => rhs; rw [← List.map_id l]
  apply List.map_congr_left
  intro x hx
  have := h x hx
  simp only [Function.comp, id]
  rw [UInt8.toNat_ofNat']
  omega
theorem size_str (l : List Int) : (strOfNums l).size = l.length := Go.strOfNums_size l
theorem data_append (a b : ByteArray) : (a ++ b).data.toList = a.data.toList ++ b.data.toList := by simp
theorem str_append (l m : List Int) : strOfNums l ++ strOfNums m = strOfNums (l ++ m) := by
  apply ByteArray.ext
  apply Array.ext'
  rw [data_append, Go.strOfNums_data, Go.strOfNums_data, Go.strOfNums_data, List.map_append]
theorem str_empty : (⟨#[]⟩ : ByteArray) = strOfNums [] := rfl
theorem bt_bytes (s : ByteArray) (i : Int) : bt s i = (bytesOf s).getD i.toNat 0 := by
  unfold bt
  split
  · rename_i h
    have h' : i.toNat < (bytesOf s).length := by rw [bytesOf_length]; exact h
    rw [List.getD_eq_getElem?_getD, List.getElem?_eq_getElem h']
    simp only [bytesOf, List.getElem_map, Option.getD_some]
    rfl
  · rename_i h
    rw [List.getD_eq_getElem?_getD, List.getElem?_eq_none (by rw [bytesOf_length]; omega)]
    rfl
theorem bt_str {l : List Int} (h : BL l) (i : Int) : bt (strOfNums l) i = l.getD i.toNat 0 := by rw [bt_bytes, bytes_str h]
theorem extract_str (l : List Int) (i j : Nat) : (strOfNums l).extract i j = strOfNums ((l.take j).drop i) := by
  apply ByteArray.ext
  apply Array.ext'
  rw [ByteArray.data_extract, Array.toList_extract, List.extract_eq_take_drop, Go.strOfNums_data, Go.strOfNums_data, ← List.drop_take, List.map_drop, List.map_take]
theorem drop_str (l : List Int) (i : Nat) : (strOfNums l).extract i (strOfNums l).size = strOfNums (l.drop i) := by
  rw [extract_str, size_str, List.take_length]
theorem take_str (l : List Int) (j : Nat) : (strOfNums l).extract 0 j = strOfNums (l.take j) := by
  rw [extract_str, List.drop_zero]
theorem toList_eq (a b : ByteArray) : a.toList = b.toList ↔ a = b := by
  constructor
  · intro h
    rw [Go.Lib.toList_data, Go.Lib.toList_data] at h
    exact ByteArray.ext (Array.ext' h)
  · rintro rfl
    rfl
theorem str_inj {l m : List Int} (hl : BL l) (hm : BL m) : strOfNums l = strOfNums m ↔ l = m := by
  constructor
  · intro h
    rw [← bytes_str hl, h, bytes_str hm]
  · rintro rfl
    rfl
theorem toList_str {l m : List Int} (hl : BL l) (hm : BL m) : (strOfNums l).toList = (strOfNums m).toList ↔ l = m := by rw [toList_eq, str_inj hl hm]
/-- A text is the list of its bytes. -/
theorem str_cases (s : ByteArray) : ∃ l, BL l ∧ s = strOfNums l := ⟨bytesOf s, bl_bytes s, (str_bytes s).symm⟩
theorem wrapS {x : Int} (h0 : -9223372036854775808 ≤ x) (h1 : x ≤ 9223372036854775807) : wrap64 x = x := by unfold wrap64; omega
end Go.Proofs.YtdlblokojlhmbaaDoor.BL
end
section
set_option linter.unusedVariables false
set_option linter.unusedSimpArgs false
namespace Go.Proofs.YtdlblokojlhmbaaDoor.MP
open Go.RowKit Go.Proofs.YtdlblokojlhmbaaDoorW.PrintWords Go.Proofs.YtdlblokojlhmbaaDoor.BL Go.Proofs.YtdlblokojlhmbaaDoor.Q
abbrev Tx := List Int
def letter (c : Int) : Bool := decide (97 ≤ c) && decide (c ≤ 122)
def part (c : Int) : Bool := letter c || (decide (48 ≤ c) && decide (c ≤ 57)) || decide (c = 45)
def plain (c : Int) : Bool := (decide (32 ≤ c) && decide (c ≤ 126)) || decide (c = 10)
def isName (l : Tx) : Bool := decide (l ≠ []) && decide (l.length ≤ 24) && letter (l.headD 0) && l.all part
def find (l : Tx) : Option (Int × Nat) :=
  if [38, 108, 116, 59].isPrefixOf l then some (60, 4) else if [38, 103, 116, 59].isPrefixOf l then some (62, 4)
  else if [38, 97, 109, 112, 59].isPrefixOf l then some (38, 5) else if [38, 113, 117, 111, 116, 59].isPrefixOf l then some (34, 6) else none
def mean : Tx → Nat → Option Tx
  | [], _ => some []
  | _ :: r, n + 1 => mean r n
  | c :: r, 0 => if plain c = true ∧ c ≠ 60 then (if c = 38 then (match find (c :: r) with
    | none => none
    | some x => (mean r (x.2 - 1)).map (x.1 :: ·)) else (mean r 0).map (c :: ·)) else none
def attr (l : Tx) : Option ((Tx × Tx) × Tx) :=
  if isName (l.takeWhile part) = true ∧ [61, 34].isPrefixOf (l.dropWhile part) = true then
    (match mean (((l.dropWhile part).drop 2).takeWhile (· != 34)) 0 with
    | none => none
    | some v => match ((l.dropWhile part).drop 2).dropWhile (· != 34) with
      | [] => none
      | _ :: t => some ((l.takeWhile part, v), t))
  else none
def attrs : Nat → Tx → Option (List (Tx × Tx) × Tx)
  | 0, l => some ([], l)
  | d + 1, l => if [32].isPrefixOf l = true then (match attr (l.drop 1) with
    | none => none
    | some x => (attrs d x.2).map fun y => (x.1 :: y.1, y.2)) else some ([], l)
def dup : List (Tx × Tx) → Bool
  | [] => false
  | a :: r => r.any (fun b => b.1 == a.1) || dup r
def opn (l : Tx) : Option (Tx × List (Tx × Tx) × Bool × Tx) :=
  if isName (l.takeWhile part) = true then
    (match attrs l.length (l.dropWhile part) with
    | none => none
    | some x => if x.1.length ≤ 64 ∧ dup x.1 = false then (if [47, 62].isPrefixOf x.2 = true then some (l.takeWhile part, x.1, true, x.2.drop 2) else if [62].isPrefixOf x.2 = true then some (l.takeWhile part, x.1, false, x.2.drop 1) else none) else none)
  else none
structure M where
  kind : Int
  at_ : Int
  name : Tx
  atts : List (Tx × Tx)
  text : Tx
deriving DecidableEq
def first (l : Tx) : Option (List M × Tx) :=
  if [60, 47].isPrefixOf l = true then (if isName ((l.drop 2).takeWhile part) = true ∧ [62].isPrefixOf ((l.drop 2).dropWhile part) = true then some ([⟨2, 0, (l.drop 2).takeWhile part, [], []⟩], ((l.drop 2).dropWhile part).drop 1) else none)
  else if [60].isPrefixOf l = true then (match opn (l.drop 1) with
    | none => none
    | some (n, ats, both, t) => some (⟨1, 0, n, ats, []⟩ :: (if both = true then [⟨2, 0, n, [], []⟩] else []), t))
  else (match mean (l.takeWhile (· != 60)) 0 with
    | none => none
    | some m => some ([⟨3, 0, [], [], m⟩], l.dropWhile (· != 60)))
def read : Nat → Tx → Int → Sum Int (List M)
  | _, [], _ => .inr []
  | 0, _ :: _, a => .inl a
  | d + 1, c :: l, a => match first (c :: l) with
    | none => .inl a
    | some x => match read d x.2 (a + ((l.length : Int) + 1 - (x.2.length : Int))) with
      | .inl e => .inl e
      | .inr r => .inr (x.1.map (fun m => { m with at_ := a }) ++ r)
/-! ### lists -/
theorem prefix_iff {p l : Tx} : p.isPrefixOf l = true ↔ l.take p.length = p := by
  rw [List.isPrefixOf_iff_prefix, List.prefix_iff_eq_take]
  exact ⟨fun h => h.symm, fun h => h.symm⟩
theorem prefix_len {p l : Tx} (h : p.isPrefixOf l = true) : p.length ≤ l.length := by
  rw [List.isPrefixOf_iff_prefix] at h
  exact h.length_le
theorem hasPrefix {l p : Tx} (hl : BL l) (hp : BL p) : stringslite_HasPrefix.f (strOfNums l) (strOfNums p) = some (p.isPrefixOf l) := by
  unfold stringslite_HasPrefix.f
  rw [size_str, size_str]
  by_cases h : (l.length : Int) ≥ (p.length : Int)
  · rw [if_pos h, if_pos (by omega), if_pos (by omega)]
    rw [show ((p.length : Int)).toNat = p.length from rfl, take_str]
    congr 1
    rw [Bool.eq_iff_iff, prefix_iff]
    simp only [beq_iff_eq]
    exact toList_str (hl.take _) hp
  · rw [if_neg h]
    congr 1
    symm
    rw [Bool.eq_false_iff]
    intro h'
    have := prefix_len h'
    omega
theorem hasPrefix' {l p : Tx} (hl : BL l) (hp : BL p) : strings_HasPrefix.f (strOfNums l) (strOfNums p) = some (p.isPrefixOf l) := by
  unfold strings_HasPrefix.f
  rw [hasPrefix hl hp]
  rfl
theorem cutPrefix {l p : Tx} (hl : BL l) (hp : BL p) : strings_CutPrefix.f (strOfNums l) (strOfNums p) = some (if p.isPrefixOf l = true then (strOfNums (l.drop p.length), true) else (strOfNums l, false)) := by
  unfold strings_CutPrefix.f stringslite_CutPrefix.f
  rw [hasPrefix hl hp]
  simp only [Option.bind_some]
  by_cases h : p.isPrefixOf l = true
  · have := prefix_len h
    rw [if_pos h, if_pos h, size_str, size_str, if_pos (by omega), if_pos (by omega)]
    simp only [Option.bind_some]
    rw [show ((p.length : Int)).toNat = p.length from rfl, ← size_str l, drop_str]
  · rw [if_neg h, if_neg h]
    rfl
theorem letter_f (c : Int) : mark_letter.f c = some (letter c) := by
  unfold mark_letter.f letter
  by_cases h : c ≥ 97
  · rw [if_pos h]
    simp [show (97 : Int) ≤ c from h]
  · rw [if_neg h]
    simp [show ¬ (97 : Int) ≤ c from h]
theorem part_f (c : Int) : mark_part.f c = some (part c) := by
  unfold mark_part.f part
  rw [letter_f]
  simp only [Option.bind_some]
  cases letter c with
  | true => simp
  | false =>
    by_cases h1 : c ≥ 48
    · rw [if_pos h1]
      by_cases h2 : c ≤ 57
      · simp [h2, show (48 : Int) ≤ c from h1]
      · simp [h2, show (48 : Int) ≤ c from h1]
        rw [Bool.eq_iff_iff]
        simp
    · rw [if_neg h1]
      simp [show ¬ (48 : Int) ≤ c from h1]
      rw [Bool.eq_iff_iff]
      simp
theorem plain_f (c : Int) : mark_plain.f c = some (plain c) := by
  unfold mark_plain.f plain
  by_cases h1 : c ≥ 32
  · rw [if_pos h1]
    by_cases h2 : c ≤ 126
    · simp [h2, show (32 : Int) ≤ c from h1]
    · simp [h2, show (32 : Int) ≤ c from h1]
      rw [Bool.eq_iff_iff]
      simp
  · rw [if_neg h1]
    simp [show ¬ (32 : Int) ≤ c from h1]
    rw [Bool.eq_iff_iff]
    simp
theorem part_le {c : Int} (h : part c = true) : c ≤ 126 := by
  simp only [part, letter, Bool.or_eq_true, Bool.and_eq_true, decide_eq_true_eq] at h
  omega
theorem getD_drop (l : Tx) (n : Nat) (h : n < l.length) : l.drop n = l.getD n 0 :: l.drop (n + 1) := by
  rw [List.drop_eq_getElem_cons h, List.getD_eq_getElem?_getD, List.getElem?_eq_getElem h]
  rfl
theorem name_lp {l : Tx} (hl : BL l) : ∀ d n, l.length ≤ n + d → mark_Name.lp (strOfNums l) d n = (l.drop n).all part
  | 0, n, h => by rw [List.drop_eq_nil_of_le (by omega)]; rfl
  | d + 1, n, h => by
    simp only [mark_Name.lp, size_str]
    by_cases hn : n < l.length
    · rw [if_pos hn, bt_str hl, show ((n : Int)).toNat = n from rfl, getD_drop l n hn, List.all_cons, name_lp hl d (n + 1) (by omega)]
      unfold mark_Name.pt
      rw [part_f]
      simp only [Option.getD_some]
      by_cases hp : part (l.getD n 0) = true
      · have := part_le hp
        rw [if_neg (by omega), if_pos hp, hp]
        simp
      · have hp' : part (l.getD n 0) = false := by simpa using hp
        rw [hp']
        simp
    · rw [if_neg hn, List.drop_eq_nil_of_le (by omega)]
      rfl
theorem name_f {l : Tx} (hl : BL l) : mark_Name.f (strOfNums l) = some (isName l) := by
  unfold mark_Name.f isName mark_Name.lt
  rw [letter_f]
  simp only [Option.getD_some, size_str]
  rw [name_lp hl _ 0 (by omega), List.drop_zero, bt_str hl]
  cases l with
  | nil => rfl
  | cons c r =>
    simp only [List.length_cons, List.headD_cons, List.getD_cons_zero, show (0 : Int).toNat = 0 from rfl]
    congr 1
    rw [if_neg (by omega)]
    by_cases h : 24 < r.length + 1
    · rw [if_pos h]
      simp [show ¬ (r.length + 1 ≤ 24) by omega]
    · rw [if_neg h]
      simp [show (r.length + 1 ≤ 24) by omega]
theorem cut_lp {l : Tx} (hl : BL l) (p : Int → Bool) : ∀ d n, l.length ≤ n + d → n ≤ l.length → mark_cut.lp p (strOfNums l) d n = n + ((l.drop n).takeWhile p).length
  | 0, n, h, h2 => by rw [List.drop_eq_nil_of_le (by omega)]; simp [mark_cut.lp]
  | d + 1, n, h, h2 => by
    simp only [mark_cut.lp, size_str]
    by_cases hn : n < l.length
    · rw [if_pos hn, bt_str hl, show ((n : Int)).toNat = n from rfl, getD_drop l n hn, List.takeWhile_cons]
      by_cases hp : p (l.getD n 0) = true
      · rw [if_pos hp, if_pos hp, cut_lp hl p d (n + 1) (by omega) (by omega), List.length_cons]
        omega
      · rw [if_neg hp, if_neg hp]
        simp
    · rw [if_neg hn, List.drop_eq_nil_of_le (by omega)]
      simp
theorem take_takeWhile (l : Tx) (p : Int → Bool) : l.take (l.takeWhile p).length = l.takeWhile p := by
  induction l with
  | nil => rfl
  | cons c r ih =>
    rw [List.takeWhile_cons]
    split
    · simp [ih]
    · simp
theorem drop_takeWhile (l : Tx) (p : Int → Bool) : l.drop (l.takeWhile p).length = l.dropWhile p := by
  induction l with
  | nil => rfl
  | cons c r ih =>
    rw [List.takeWhile_cons, List.dropWhile_cons]
    split
    · simp [ih]
    · simp
theorem cut_at {l : Tx} (hl : BL l) (p : Int → Bool) (hs : l.length ≤ 9223372036854775807) : mark_cut.at p (strOfNums l) = some (strOfNums (l.takeWhile p), strOfNums (l.dropWhile p)) := by
  unfold mark_cut.at
  rw [size_str, if_pos hs, cut_lp hl p _ 0 (by omega) (by omega), List.drop_zero, Nat.zero_add, take_str, take_takeWhile, ← size_str l, drop_str, drop_takeWhile]
theorem letter_part : mark_cut.letter = part := by
  funext c
  unfold mark_cut.letter
  rw [part_f]
  rfl
theorem BL.takeWhile {l : Tx} (h : BL l) (p : Int → Bool) : BL (l.takeWhile p) := by rw [← take_takeWhile]; exact h.take _
theorem BL.dropWhile {l : Tx} (h : BL l) (p : Int → Bool) : BL (l.dropWhile p) := by rw [← drop_takeWhile]; exact h.drop _
theorem named_f {l : Tx} (hl : BL l) (hs : l.length ≤ 9223372036854775807) : mark_named.f (strOfNums l) = some (strOfNums (l.takeWhile part), strOfNums (l.dropWhile part), isName (l.takeWhile part)) := by
  unfold mark_named.f mark_cut_part.f
  rw [cut_at hl _ hs, letter_part]
  simp only [Option.bind_some]
  rw [name_f (BL.takeWhile hl _)]
  rfl
end Go.Proofs.YtdlblokojlhmbaaDoor.MP
end
section
set_option linter.unusedVariables false
set_option linter.unusedSimpArgs false
namespace Go.Proofs.YtdlblokojlhmbaaDoor.MP
open Go.RowKit Go.Proofs.YtdlblokojlhmbaaDoorW.PrintWords Go.Proofs.YtdlblokojlhmbaaDoor.BL Go.Proofs.YtdlblokojlhmbaaDoor.Q
theorem mean_drop : ∀ (l : Tx) (n : Nat), mean l n = mean (l.drop n) 0
  | [], n => by simp [mean]
  | c :: r, 0 => by simp
  | c :: r, n + 1 => by
    rw [show mean (c :: r) (n + 1) = mean r n from rfl, mean_drop r n]
    rfl
theorem find_bound {l : Tx} {x : Int × Nat} (h : find l = some x) : 0 ≤ x.1 ∧ x.1 < 256 ∧ 1 ≤ x.2 ∧ x.2 ≤ l.length := by
  unfold find at h
  split at h
  · rename_i hp; have := prefix_len hp; obtain rfl := Option.some.inj h; simp at this ⊢; exact this
  split at h
  · rename_i hp; have := prefix_len hp; obtain rfl := Option.some.inj h; simp at this ⊢; exact this
  split at h
  · rename_i hp; have := prefix_len hp; obtain rfl := Option.some.inj h; simp at this ⊢; exact this
  split at h
  · rename_i hp; have := prefix_len hp; obtain rfl := Option.some.inj h; simp at this ⊢; exact this
  · simp at h
theorem plain_byte {c : Int} (h : plain c = true) : 0 ≤ c ∧ c < 256 := by
  simp only [plain, Bool.or_eq_true, Bool.and_eq_true, decide_eq_true_eq] at h
  omega
theorem mean_bl : ∀ (d : Nat) (l : Tx) (m : Tx), l.length ≤ d → mean l 0 = some m → BL m ∧ m.length ≤ l.length
  | d, [], m, _, h => by
    obtain rfl := Option.some.inj (show some [] = some m from h)
    exact ⟨BL.nil, by simp⟩
  | 0, c :: r, m, hd, h => by simp at hd
  | d + 1, c :: r, m, hd, h => by
    simp only [List.length_cons] at hd
    simp only [mean] at h
    split at h
    · rename_i hp
      split at h
      · rename_i hc
        cases hf : find (c :: r) with
        | none => rw [hf] at h; simp at h
        | some x =>
          rw [hf] at h
          simp only [Option.map_eq_some_iff] at h
          obtain ⟨m', h1, rfl⟩ := h
          rw [mean_drop] at h1
          have hb := find_bound hf
          have := mean_bl d (r.drop (x.2 - 1)) m' (by simp; omega) h1
          refine ⟨BL.cons ⟨hb.1, hb.2.1⟩ this.1, ?_⟩
          have h2 := this.2
          simp only [List.length_drop, List.length_cons] at *
          omega
      · simp only [Option.map_eq_some_iff] at h
        obtain ⟨m', h1, rfl⟩ := h
        have := mean_bl d r m' (by omega) h1
        refine ⟨BL.cons (plain_byte hp.1) this.1, ?_⟩
        have h2 := this.2
        simp only [List.length_cons]
        omega
    · simp at h
theorem one_str {c : Int} : Bl2.one c = strOfNums [c] := rfl
theorem hp_f {l : Tx} (hl : BL l) (n : Nat) (p : Tx) (hp : BL p) : mark_meant.hp (strOfNums l) (n : Int) (strOfNums p) = p.isPrefixOf (l.drop n) := by
  unfold mark_meant.hp
  rw [show ((n : Int)).toNat = n from rfl, drop_str, hasPrefix' (hl.drop _) hp]
  rfl
theorem bl_dec {l : Tx} (h : (l.all fun x => decide (0 ≤ x) && decide (x < 256)) = true) : BL l := by
  intro x hx
  have := List.all_eq_true.1 h x hx
  simpa using this
theorem at_f {l : Tx} (hl : BL l) (n : Nat) : mark_meant.at (strOfNums l) (n : Int) = (match find (l.drop n) with | none => -1 | some x => if x.1 = 60 then 0 else if x.1 = 62 then 1 else if x.1 = 38 then 2 else 3) := by
  unfold mark_meant.at
  have h0 := hp_f hl n [38, 108, 116, 59] (bl_dec rfl)
  have h1 := hp_f hl n [38, 103, 116, 59] (bl_dec rfl)
  have h2 := hp_f hl n [38, 97, 109, 112, 59] (bl_dec rfl)
  have h3 := hp_f hl n [38, 113, 117, 111, 116, 59] (bl_dec rfl)
  change mark_meant.hp (strOfNums l) (n : Int) (Tabs.txt 0) = _ at h0
  change mark_meant.hp (strOfNums l) (n : Int) (Tabs.txt 1) = _ at h1
  change mark_meant.hp (strOfNums l) (n : Int) (Tabs.txt 2) = _ at h2
  change mark_meant.hp (strOfNums l) (n : Int) (Tabs.txt 3) = _ at h3
  simp only [Tabs.ix]
  simp only [h0, h1, h2, h3]
  unfold find
  generalize [38, 108, 116, 59].isPrefixOf (l.drop n) = b0
  generalize [38, 103, 116, 59].isPrefixOf (l.drop n) = b1
  generalize [38, 97, 109, 112, 59].isPrefixOf (l.drop n) = b2
  generalize [38, 113, 117, 111, 116, 59].isPrefixOf (l.drop n) = b3
  cases b0 <;> cases b1 <;> cases b2 <;> cases b3 <;> rfl
theorem find_key {l : Tx} {x : Int × Nat} (h : find l = some x) : ∃ j : Nat, (if x.1 = 60 then (0 : Int) else if x.1 = 62 then 1 else if x.1 = 38 then 2 else 3) = (j : Int) ∧ Tabs.key j = x.1 ∧ (Tabs.txt j).size = x.2 := by
  unfold find at h
  split at h
  · obtain rfl := Option.some.inj h; exact ⟨0, rfl, rfl, rfl⟩
  split at h
  · obtain rfl := Option.some.inj h; exact ⟨1, rfl, rfl, rfl⟩
  split at h
  · obtain rfl := Option.some.inj h; exact ⟨2, rfl, rfl, rfl⟩
  split at h
  · obtain rfl := Option.some.inj h; exact ⟨3, rfl, rfl, rfl⟩
  · simp at h
/-- A result of meant's. -/
def meanR (o : Tx) : Option Tx → ByteArray × Bool
  | none => (⟨#[]⟩, false)
  | some m => (strOfNums (o ++ m), true)
theorem meant_l0 {l : Tx} (hl : BL l) (hs : l.length ≤ 140737488351232) : ∀ (d n : Nat) (o : Tx), n ≤ l.length → l.length - n ≤ d → o.length ≤ n → Ev (fun k => mark_meant.l0 k (strOfNums o) (strOfNums l) (n : Int)) (meanR o (mean (l.drop n) 0))
  | d, n, o, hn, hd, ho => by
    refine Ev.step (fun k => by rw [mark_meant.l0]) ?_
    by_cases h : n < l.length
    · have hc : ((n : Int) < ((strOfNums l).size : Int)) := by rw [size_str]; omega
      have hd0 : d ≠ 0 := by omega
      obtain ⟨d, rfl⟩ : ∃ e, d = e + 1 := ⟨d - 1, by omega⟩
      simp only [if_pos hc, if_pos (show 0 ≤ (n : Int) by omega), bt_str hl, show ((n : Int)).toNat = n from rfl, plain_f, Option.bind_some]
      rw [getD_drop l n h]
      simp only [mean]
      generalize hcc : l.getD n 0 = c
      cases hp : plain c with
      | false => simp only [Bool.false_eq_true, if_false, false_and]; exact Ev.now _
      | true =>
        simp only [if_true, true_and]
        by_cases h60 : c = 60
        · simp only [h60, if_true, ne_eq, not_true, if_false]
          exact Ev.now _
        · simp only [if_neg h60, ne_eq, h60, not_false_iff, if_true]
          by_cases h38 : c = 38
          · simp only [if_pos h38, at_f hl n, getD_drop l n h, hcc]
            cases hf : find (c :: l.drop (n + 1)) with
            | none => simp only [show (-1 : Int) < 0 by omega, if_true]; exact Ev.now _
            | some x =>
              obtain ⟨j, hj, hk, ht⟩ := find_key hf
              have hb := find_bound hf
              simp only [List.length_cons, List.length_drop] at hb
              simp only [hj]
              simp only [if_neg (show ¬ ((j : Int) < 0) by omega), show ((j : Int)).toNat = j from rfl, hk, ht, size_str, if_pos (show o.length + 1 ≤ 140737488355328 by omega), one_str, str_append]
              have e1 : wrap64 (wrap64 ((n : Int) + wrap64 ((x.2 : Int) - 1)) + 1) = ((n + x.2 : Nat) : Int) := by
                rw [wrapS (x := (x.2 : Int) - 1) (by omega) (by omega), wrapS (x := (n : Int) + ((x.2 : Int) - 1)) (by omega) (by omega), wrapS (by omega) (by omega)]
                omega
              simp only [e1]
              have := meant_l0 hl hs d (n + x.2) (o ++ [x.1]) (by omega) (by omega) (by simp; omega)
              rw [mean_drop (l.drop (n + 1)) (x.2 - 1), List.drop_drop, show n + 1 + (x.2 - 1) = n + x.2 by omega]
              cases hm : mean (l.drop (n + x.2)) 0 with
              | none => rw [hm] at this; exact this
              | some m => rw [hm] at this; simpa [meanR] using this
          · simp only [if_neg h38, size_str, if_pos (show o.length + 1 ≤ 140737488355328 by omega), one_str, str_append]
            simp only [wrapS (x := (n : Int) + 1) (by omega) (by omega)]
            have := meant_l0 hl hs d (n + 1) (o ++ [c]) (by omega) (by omega) (by simp; omega)
            cases hm : mean (l.drop (n + 1)) 0 with
            | none => rw [hm] at this; exact this
            | some m => rw [hm] at this; simpa [meanR] using this
    · have hc : ¬ ((n : Int) < ((strOfNums l).size : Int)) := by rw [size_str]; omega
      simp only [if_neg hc]
      rw [List.drop_eq_nil_of_le (by omega)]
      simp only [mean, meanR, List.append_nil]
      exact Ev.now _
termination_by d => d
theorem meant_f {l : Tx} (hl : BL l) (hs : l.length ≤ 140737488351232) : Ev (fun k => mark_meant.f k (strOfNums l)) (meanR [] (mean l 0)) := by
  have := meant_l0 hl hs l.length 0 [] (by omega) (by omega) (by simp)
  exact this
end Go.Proofs.YtdlblokojlhmbaaDoor.MP
end
section
set_option linter.unusedVariables false
set_option linter.unusedSimpArgs false
namespace Go.Proofs.YtdlblokojlhmbaaDoor.MP
open Go.RowKit Go.Proofs.YtdlblokojlhmbaaDoorW.PrintWords Go.Proofs.YtdlblokojlhmbaaDoor.BL Go.Proofs.YtdlblokojlhmbaaDoor.Q
theorem tw_len (l : Tx) (p : Int → Bool) : (l.takeWhile p).length + (l.dropWhile p).length = l.length := by
  rw [← List.length_append, List.takeWhile_append_dropWhile]
theorem ne_fun (c : Int) : mark_cut.ne c = fun x => x != c := rfl
def attrR : Option ((Tx × Tx) × Tx) → ByteArray × ByteArray × ByteArray × Bool
  | none => (⟨#[]⟩, ⟨#[]⟩, ⟨#[]⟩, false)
  | some x => (strOfNums x.1.1, strOfNums x.1.2, strOfNums x.2, true)
theorem attr_bl {l : Tx} (hl : BL l) {x : (Tx × Tx) × Tx} (h : attr l = some x) : BL x.1.1 ∧ BL x.1.2 ∧ BL x.2 ∧ x.2.length ≤ l.length := by
  unfold attr at h
  split at h
  · cases hm : mean (((l.dropWhile part).drop 2).takeWhile (· != 34)) 0 with
    | none => rw [hm] at h; simp at h
    | some v =>
      rw [hm] at h
      simp only at h
      cases hd : ((l.dropWhile part).drop 2).dropWhile (· != 34) with
      | nil => rw [hd] at h; simp at h
      | cons c t =>
        rw [hd] at h
        obtain rfl := Option.some.inj h
        have hb := BL.dropWhile ((BL.dropWhile hl part).drop 2) (· != 34)
        rw [hd] at hb
        refine ⟨BL.takeWhile hl _, (mean_bl _ _ _ (Nat.le_refl _) hm).1, fun y hy => hb y (List.mem_cons_of_mem _ hy), ?_⟩
        have h1 := tw_len ((l.dropWhile part).drop 2) (· != 34)
        rw [hd] at h1
        have h2 := tw_len l part
        simp only [List.length_cons, List.length_drop] at h1
        show t.length ≤ l.length
        omega
  · simp at h
theorem nil_toList {l : Tx} (hl : BL l) : (strOfNums l).toList = ([] : List UInt8) ↔ l = [] := by
  have h := toList_str hl BL.nil
  have e : (strOfNums []).toList = ([] : List UInt8) := by rw [Go.Lib.toList_data]; rfl
  rw [e] at h
  exact h
theorem attr_f {l : Tx} (hl : BL l) (hs : l.length ≤ 140737488351232) : Ev (fun k => mark_attr.f k (strOfNums l)) (attrR (attr l)) := by
  have hlen := tw_len l part
  have hr : BL (l.dropWhile part) := BL.dropWhile hl _
  have key : ∀ b : Bool, (b = false → [61, 34].isPrefixOf (l.dropWhile part) = true) → Ev (fun k => mark_attr.j0 k (strOfNums (l.dropWhile part)) (strOfNums (l.takeWhile part)) b) (attrR (if b = false then (match mean (((l.dropWhile part).drop 2).takeWhile (· != 34)) 0 with
    | none => none
    | some v => match ((l.dropWhile part).drop 2).dropWhile (· != 34) with
      | [] => none
      | _ :: t => some ((l.takeWhile part, v), t)) else none)) := by
    intro b hb
    refine Ev.step (fun k => by rw [mark_attr.j0]) ?_
    cases b with
    | true =>
      simp only [if_true, Bool.true_eq_false, if_false]
      exact Ev.now _
    | false =>
      have hp := prefix_len (hb rfl)
      simp only [List.length_cons, List.length_nil] at hp
      have h2 : (2 : Int) ≤ ((strOfNums (l.dropWhile part)).size : Int) := by rw [size_str]; omega
      simp only [Bool.false_eq_true, if_false, if_true, if_pos h2, drop_str]
      have hd : BL ((l.dropWhile part).drop 2) := hr.drop 2
      have hdl : ((l.dropWhile part).drop 2).length ≤ l.length := by simp; omega
      simp only [mark_cut_quote.f, cut_at hd (fun x => x != 34) (by omega), ne_fun, Option.bind_some]
      have hl1 := tw_len ((l.dropWhile part).drop 2) (· != 34)
      have hdw : BL (((l.dropWhile part).drop 2).dropWhile (· != 34)) := BL.dropWhile hd _
      refine Ev.bind (meant_f (BL.takeWhile hd (· != 34)) (by omega)) ?_
      cases mean (((l.dropWhile part).drop 2).takeWhile (· != 34)) 0 with
      | none => simp only [meanR, Bool.false_eq_true, if_false]; exact Ev.now _
      | some v =>
        simp only [meanR, if_true, nil_toList hdw, List.nil_append]
        cases ht : ((l.dropWhile part).drop 2).dropWhile (· != 34) with
        | nil => simp only [if_true]; exact Ev.now _
        | cons c t =>
          have h1 : (1 : Int) ≤ ((strOfNums (c :: t)).size : Int) := by rw [size_str]; simp; omega
          simp only [reduceCtorEq, if_false, if_pos h1, drop_str, List.drop_succ_cons, List.drop_zero, attrR]
          exact Ev.now _
  unfold mark_attr.f attr
  rw [named_f hl (by omega)]
  simp only [Option.bind_some]
  cases hn : isName (l.takeWhile part) with
  | false =>
    simp only [Bool.false_eq_true, if_false, false_and]
    have := key true (by simp)
    simpa using this
  | true =>
    have hpf := hasPrefix' hr (p := [61, 34]) (bl_dec rfl)
    change strings_HasPrefix.f _ (⟨#[61, 34]⟩ : ByteArray) = _ at hpf
    simp only [if_true, hpf, Option.bind_some, true_and]
    cases hb : [61, 34].isPrefixOf (l.dropWhile part) with
    | false =>
      have := key true (by simp)
      simpa using this
    | true =>
      have := key false (fun _ => hb)
      simp only [if_true] at this ⊢
      exact this
def toA (x : Tx × Tx) : S51 := ⟨strOfNums x.1, strOfNums x.2⟩
def toM (m : M) : S38 := ⟨m.kind, m.at_, strOfNums m.name, m.atts.map toA, strOfNums m.text⟩
/-! ### twice -/
theorem ix_any (p : S51 → Bool) (l : List S51) : ∀ d i, l.length ≤ i + d → (0 ≤ mark_twice.ix p l d i ↔ (l.drop i).any p = true)
  | 0, i, h => by rw [List.drop_eq_nil_of_le (by omega)]; simp [mark_twice.ix]
  | d + 1, i, h => by
    simp only [mark_twice.ix]
    by_cases hi : i < l.length
    · rw [if_pos hi, List.drop_eq_getElem_cons hi, List.any_cons]
      have e : rd_T51 l (i : Int) = l[i] := by
        unfold rd_T51
        rw [show ((i : Int)).toNat = i from rfl, List.getD_eq_getElem?_getD, List.getElem?_eq_getElem hi]
        rfl
      rw [e]
      by_cases hp : p l[i] = true
      · rw [if_pos hp, hp]
        simp
      · rw [if_neg hp, ix_any p l d (i + 1) (by omega)]
        simp [hp]
    · rw [if_neg hi, List.drop_eq_nil_of_le (by omega)]
      simp
theorem twice_lp {ats : List (Tx × Tx)} (hb : ∀ x ∈ ats, BL x.1) : ∀ d i, ats.length ≤ i + d → (mark_twice.lp (ats.map toA) d i = true ↔ ∃ j, i ≤ j ∧ j < ats.length ∧ ∃ q, q < j ∧ (ats.getD q ([], [])).1 = (ats.getD j ([], [])).1)
  | 0, i, h => by
    simp only [mark_twice.lp]
    constructor
    · intro h; simp at h
    · rintro ⟨j, h1, h2, _⟩; omega
  | d + 1, i, h => by
    simp only [mark_twice.lp, List.length_map]
    by_cases hi : i < ats.length
    · rw [if_pos hi]
      have hone : mark_twice.one (ats.map toA) i = true ↔ ∃ q, q < i ∧ (ats.getD q ([], [])).1 = (ats.getD i ([], [])).1 := by
        unfold mark_twice.one
        rw [decide_eq_true_iff, ix_any _ _ _ 0 (by omega), List.drop_zero, List.any_eq_true]
        have e : (rd_T51 (ats.map toA) (i : Int)) = toA (ats.getD i ([], [])) := by
          unfold rd_T51
          rw [show ((i : Int)).toNat = i from rfl, List.getD_eq_getElem?_getD, List.getD_eq_getElem?_getD, List.getElem?_map, List.getElem?_eq_getElem hi]
          rfl
        rw [e]
        have hget : ∀ q, q < ats.length → ats.getD q ([], []) ∈ ats := by
          intro q hq
          rw [List.getD_eq_getElem?_getD, List.getElem?_eq_getElem hq]
          exact List.getElem_mem hq
        constructor
        · rintro ⟨x, hx, hxe⟩
          obtain ⟨q, hq, rfl⟩ := List.mem_iff_getElem.1 hx
          simp only [List.length_take, List.length_map] at hq
          refine ⟨q, by omega, ?_⟩
          rw [List.getElem_take, List.getElem_map] at hxe
          simp only [beq_iff_eq, toA] at hxe
          have h3 := (toList_str (hb _ (hget i hi)) (hb _ (List.getElem_mem (by omega)))).1 hxe
          rw [List.getD_eq_getElem?_getD (l := ats) (i := q), List.getElem?_eq_getElem (by omega)]
          exact h3.symm
        · rintro ⟨q, hq, hqe⟩
          refine ⟨toA (ats.getD q ([], [])), ?_, ?_⟩
          · rw [List.getD_eq_getElem?_getD, List.getElem?_eq_getElem (by omega)]
            refine List.mem_iff_getElem.2 ⟨q, by simp; omega, ?_⟩
            rw [List.getElem_take, List.getElem_map]
            rfl
          · simp only [toA, hqe, beq_self_eq_true]
      by_cases ho : mark_twice.one (ats.map toA) i = true
      · rw [if_pos ho]
        obtain ⟨q, hq⟩ := hone.1 ho
        exact ⟨fun _ => ⟨i, Nat.le_refl _, hi, q, hq⟩, fun _ => rfl⟩
      · rw [if_neg ho, twice_lp hb d (i + 1) (by omega)]
        constructor
        · rintro ⟨j, h1, h2⟩; exact ⟨j, by omega, h2⟩
        · rintro ⟨j, h1, h2, h3⟩
          rcases Nat.eq_or_lt_of_le h1 with rfl | h1
          · exact absurd (hone.2 h3) ho
          · exact ⟨j, h1, h2, h3⟩
    · rw [if_neg hi]
      constructor
      · intro h; simp at h
      · rintro ⟨j, h1, h2, _⟩; omega
theorem dup_iff : ∀ (ats : List (Tx × Tx)), dup ats = true ↔ ∃ j, j < ats.length ∧ ∃ q, q < j ∧ (ats.getD q ([], [])).1 = (ats.getD j ([], [])).1
  | [] => by simp [dup]
  | a :: r => by
    simp only [dup, Bool.or_eq_true, List.any_eq_true, beq_iff_eq, dup_iff r]
    constructor
    · rintro (⟨b, hb, he⟩ | ⟨j, hj, q, hq, he⟩)
      · obtain ⟨j, hj, rfl⟩ := List.mem_iff_getElem.1 hb
        refine ⟨j + 1, by simp; omega, 0, by omega, ?_⟩
        rw [List.getD_cons_zero, List.getD_cons_succ, List.getD_eq_getElem?_getD, List.getElem?_eq_getElem hj]
        exact he.symm
      · exact ⟨j + 1, by simp; omega, q + 1, by omega, by simpa using he⟩
    · rintro ⟨j, hj, q, hq, he⟩
      obtain ⟨j, rfl⟩ : ∃ z, j = z + 1 := ⟨j - 1, by omega⟩
      simp only [List.length_cons] at hj
      cases q with
      | zero =>
        left
        rw [List.getD_cons_zero, List.getD_cons_succ, List.getD_eq_getElem?_getD, List.getElem?_eq_getElem (by omega)] at he
        exact ⟨_, List.getElem_mem (by omega), he.symm⟩
      | succ q => right; exact ⟨j, by omega, q, by omega, by simpa using he⟩
theorem twice_f {ats : List (Tx × Tx)} (hb : ∀ x ∈ ats, BL x.1) (hs : ats.length ≤ 9223372036854775807) : mark_twice.f (ats.map toA) = some (dup ats) := by
  unfold mark_twice.f
  rw [List.length_map, if_pos hs]
  congr 1
  rw [Bool.eq_iff_iff, twice_lp hb _ 0 (by omega), dup_iff]
  simp
end Go.Proofs.YtdlblokojlhmbaaDoor.MP
end
section
set_option linter.unusedVariables false
set_option linter.unusedSimpArgs false
namespace Go.Proofs.YtdlblokojlhmbaaDoor.MP
open Go.RowKit Go.Proofs.YtdlblokojlhmbaaDoorW.PrintWords Go.Proofs.YtdlblokojlhmbaaDoor.BL Go.Proofs.YtdlblokojlhmbaaDoor.Q
theorem cut1 {l : Tx} (hl : BL l) (p : Tx) (hp : BL p) (q : ByteArray) (hq : q = strOfNums p) : strings_CutPrefix.f (strOfNums l) q = some (if p.isPrefixOf l = true then (strOfNums (l.drop p.length), true) else (strOfNums l, false)) := by
  subst hq
  exact cutPrefix hl hp
abbrev OpenR := Int × Int × ByteArray × (List (S51)) × ByteArray × Bool × ByteArray × Bool
def okOf (r : OpenR) : Bool := r.2.2.2.2.2.2.2
/-- The end of an open mark. -/
theorem open_j2 {u : Tx} (hu : BL u) (b : Bool) (k1 k2 : Int) (nm : ByteArray) (ats : List S51) (tx : ByteArray) :
    Ev (fun k => mark_open.j2 k (strOfNums u) b k1 k2 nm ats tx) (if [47, 62].isPrefixOf u = true then (k1, k2, nm, ats, tx, true, strOfNums (u.drop 2), b) else if [62].isPrefixOf u = true then (k1, k2, nm, ats, tx, false, strOfNums (u.drop 1), b) else (k1, k2, nm, ats, tx, false, strOfNums u, false)) := by
  refine Ev.step (fun k => by rw [mark_open.j2]) ?_
  simp only [cut1 hu [47, 62] (bl_dec rfl) (⟨#[47, 62]⟩ : ByteArray) rfl, cut1 hu [62] (bl_dec rfl) (⟨#[62]⟩ : ByteArray) rfl, Option.bind_some]
  by_cases h1 : [47, 62].isPrefixOf u = true
  · simp only [if_pos h1, if_true]
    exact Ev.now _
  · simp only [if_neg h1, Bool.false_eq_true, if_false]
    by_cases h2 : [62].isPrefixOf u = true
    · simp only [if_pos h2]
      cases b <;> (simp only [if_true, Bool.false_eq_true, if_false]; exact Ev.now _)
    · simp only [if_neg h2]
      cases b <;> (simp only [if_true, Bool.false_eq_true, if_false]; exact Ev.now _)
theorem open_bad {u : Tx} (hu : BL u) (k1 k2 : Int) (nm : ByteArray) (ats : List S51) (tx : ByteArray) : ∃ r : OpenR, Ev (fun k => mark_open.l0 k (strOfNums u) false k1 k2 nm ats tx) r ∧ okOf r = false := by
  have h := open_j2 hu false k1 k2 nm ats tx
  have step : ∀ r : OpenR, Ev (fun k => mark_open.j2 k (strOfNums u) false k1 k2 nm ats tx) r → Ev (fun k => mark_open.l0 k (strOfNums u) false k1 k2 nm ats tx) r := by
    intro r hr
    refine Ev.step (fun k => by rw [mark_open.l0]) ?_
    simp only [Bool.false_eq_true, if_false]
    refine Ev.step (fun k => by rw [mark_open.j1]) ?_
    simp only [Bool.false_eq_true, if_false]
    exact hr
  refine ⟨_, step _ h, ?_⟩
  split
  · rfl
  · split <;> rfl
theorem open_end {u : Tx} (hu : BL u) {acc : List (Tx × Tx)} (hb : ∀ x ∈ acc, BL x.1) (hacc : acc.length ≤ 9223372036854775807) (hsp : [32].isPrefixOf u = false) (k1 k2 : Int) (nm : ByteArray) (tx : ByteArray) :
    (acc.length ≤ 64 ∧ dup acc = false ∧ [47, 62].isPrefixOf u = true ∧ Ev (fun k => mark_open.l0 k (strOfNums u) true k1 k2 nm (acc.map toA) tx) (k1, k2, nm, acc.map toA, tx, true, strOfNums (u.drop 2), true)) ∨
    (acc.length ≤ 64 ∧ dup acc = false ∧ [47, 62].isPrefixOf u = false ∧ [62].isPrefixOf u = true ∧ Ev (fun k => mark_open.l0 k (strOfNums u) true k1 k2 nm (acc.map toA) tx) (k1, k2, nm, acc.map toA, tx, false, strOfNums (u.drop 1), true)) ∨
    (¬ (acc.length ≤ 64 ∧ dup acc = false ∧ ([47, 62].isPrefixOf u = true ∨ [62].isPrefixOf u = true)) ∧ ∃ r : OpenR, Ev (fun k => mark_open.l0 k (strOfNums u) true k1 k2 nm (acc.map toA) tx) r ∧ okOf r = false) := by
  have hp := hasPrefix' hu (p := [32]) (bl_dec rfl)
  change strings_HasPrefix.f _ (⟨#[32]⟩ : ByteArray) = _ at hp
  rw [hsp] at hp
  have go : ∀ r : OpenR, Ev (fun k => mark_open.j1 k (strOfNums u) true k1 k2 nm (acc.map toA) tx) r → Ev (fun k => mark_open.l0 k (strOfNums u) true k1 k2 nm (acc.map toA) tx) r := by
    intro r hr
    refine Ev.step (fun k => by rw [mark_open.l0]) ?_
    simp only [if_true, hp, Option.bind_some, Bool.false_eq_true, if_false]
    exact hr
  have go1 : ∀ r : OpenR, Ev (fun k => mark_open.j2 k (strOfNums u) (decide (acc.length ≤ 64) && !dup acc) k1 k2 nm (acc.map toA) tx) r → Ev (fun k => mark_open.l0 k (strOfNums u) true k1 k2 nm (acc.map toA) tx) r := by
    intro r hr
    refine go r (Ev.step (fun k => by rw [mark_open.j1]) ?_)
    simp only [if_true, List.length_map]
    by_cases h64 : acc.length ≤ 64
    · simp only [if_pos (show (acc.length : Int) ≤ 64 by omega), twice_f hb hacc, Option.bind_some]
      simpa [h64] using hr
    · simp only [if_neg (show ¬ (acc.length : Int) ≤ 64 by omega)]
      simpa [h64] using hr
  have hj := fun b => open_j2 hu b k1 k2 nm (acc.map toA) tx
  by_cases hg : acc.length ≤ 64 ∧ dup acc = false
  · have hg' : (decide (acc.length ≤ 64) && !dup acc) = true := by simp [hg.1, hg.2]
    rw [hg'] at go1
    have hj1 := hj true
    by_cases h1 : [47, 62].isPrefixOf u = true
    · rw [if_pos h1] at hj1
      exact .inl ⟨hg.1, hg.2, h1, go1 _ hj1⟩
    · rw [if_neg h1] at hj1
      by_cases h2 : [62].isPrefixOf u = true
      · rw [if_pos h2] at hj1
        exact .inr (.inl ⟨hg.1, hg.2, Bool.eq_false_iff.2 h1, h2, go1 _ hj1⟩)
      · rw [if_neg h2] at hj1
        exact .inr (.inr ⟨fun h => h.2.2.elim h1 h2, _, go1 _ hj1, rfl⟩)
  · have hg' : (decide (acc.length ≤ 64) && !dup acc) = false := by
      rw [Bool.eq_false_iff]
      intro h
      simp at h
      exact hg h
    rw [hg'] at go1
    refine .inr (.inr ⟨fun h => hg ⟨h.1, h.2.1⟩, _, go1 _ (hj false), ?_⟩)
    split
    · rfl
    · split <;> rfl
/-- The attributes of an open mark, from a place on. -/
theorem open_l0 (k1 k2 : Int) (nm tx : ByteArray) : ∀ (d : Nat) (u : Tx) (acc : List (Tx × Tx)), BL u → u.length ≤ d → (∀ x ∈ acc, BL x.1) → u.length ≤ 140737488351232 → acc.length + d ≤ 4398046511103 →
    (match attrs d u with
    | none => ∃ r : OpenR, Ev (fun k => mark_open.l0 k (strOfNums u) true k1 k2 nm (acc.map toA) tx) r ∧ okOf r = false
    | some y => ((acc ++ y.1).length ≤ 64 ∧ dup (acc ++ y.1) = false ∧ [47, 62].isPrefixOf y.2 = true ∧ Ev (fun k => mark_open.l0 k (strOfNums u) true k1 k2 nm (acc.map toA) tx) (k1, k2, nm, (acc ++ y.1).map toA, tx, true, strOfNums (y.2.drop 2), true)) ∨
      ((acc ++ y.1).length ≤ 64 ∧ dup (acc ++ y.1) = false ∧ [47, 62].isPrefixOf y.2 = false ∧ [62].isPrefixOf y.2 = true ∧ Ev (fun k => mark_open.l0 k (strOfNums u) true k1 k2 nm (acc.map toA) tx) (k1, k2, nm, (acc ++ y.1).map toA, tx, false, strOfNums (y.2.drop 1), true)) ∨
      (¬ ((acc ++ y.1).length ≤ 64 ∧ dup (acc ++ y.1) = false ∧ ([47, 62].isPrefixOf y.2 = true ∨ [62].isPrefixOf y.2 = true)) ∧ ∃ r : OpenR, Ev (fun k => mark_open.l0 k (strOfNums u) true k1 k2 nm (acc.map toA) tx) r ∧ okOf r = false)) := by
  intro d
  induction d with
  | zero =>
    intro u acc hu hd hb hs ha
    have : u = [] := List.length_eq_zero_iff.1 (by omega)
    subst this
    have := open_end hu hb (by omega) rfl k1 k2 nm tx
    simpa [attrs] using this
  | succ d ih =>
    intro u acc hu hd hb hs ha
    simp only [attrs]
    by_cases h : [32].isPrefixOf u = true
    · rw [if_pos h]
      have hl := prefix_len h
      simp only [List.length_cons, List.length_nil] at hl
      have hp := hasPrefix' hu (p := [32]) (bl_dec rfl)
      change strings_HasPrefix.f _ (⟨#[32]⟩ : ByteArray) = _ at hp
      rw [h] at hp
      have h1 : (1 : Int) ≤ ((strOfNums u).size : Int) := by rw [size_str]; omega
      have hat := attr_f (hu.drop 1) (by simp; omega)
      have go : ∀ (w : ByteArray × ByteArray × ByteArray × Bool) (r : OpenR), Ev (fun k => mark_attr.f k (strOfNums (u.drop 1))) w → Ev (fun k => mark_open.l0 k w.2.2.1 w.2.2.2 k1 k2 nm (acc.map toA ++ [⟨w.1, w.2.1⟩]) tx) r → Ev (fun k => mark_open.l0 k (strOfNums u) true k1 k2 nm (acc.map toA) tx) r := by
        intro w r hw hr
        refine Ev.step (fun k => by rw [mark_open.l0]) ?_
        simp only [if_true, hp, Option.bind_some, if_pos h1, show (1 : Int).toNat = 1 from rfl, drop_str]
        refine Ev.bind hw ?_
        simp only [List.length_map, if_pos (show acc.length < 4398046511104 by omega)]
        exact hr
      cases hx : attr (u.drop 1) with
      | none =>
        rw [hx] at hat
        obtain ⟨r, hr, ho⟩ := open_bad (u := []) BL.nil k1 k2 nm (acc.map toA ++ [⟨⟨#[]⟩, ⟨#[]⟩⟩]) tx
        exact ⟨r, go _ r hat hr, ho⟩
      | some x =>
        rw [hx] at hat
        have hab := attr_bl (hu.drop 1) hx
        have hdl : (u.drop 1).length = u.length - 1 := by simp
        have := ih x.2 (acc ++ [x.1]) hab.2.2.1 (by omega) (by
          intro y hy
          rcases List.mem_append.1 hy with hy | hy
          · exact hb y hy
          · rw [List.mem_singleton.1 hy]; exact hab.1) (by omega) (by simp; omega)
        have e : (acc ++ [x.1]).map toA = acc.map toA ++ [⟨strOfNums x.1.1, strOfNums x.1.2⟩] := by simp [toA]
        cases hy : attrs d x.2 with
        | none =>
          rw [hy] at this
          obtain ⟨r, hr, ho⟩ := this
          rw [e] at hr
          simp only [hy, Option.map_none]
          exact ⟨r, go _ r hat hr, ho⟩
        | some y =>
          rw [hy] at this
          simp only [hy, Option.map_some]
          simp only [List.append_assoc, List.singleton_append] at this
          rw [e] at this
          rcases this with ⟨a1, a2, a3, a4⟩ | ⟨a1, a2, a3, a4, a5⟩ | ⟨a1, r, a2, a3⟩
          · exact .inl ⟨a1, a2, a3, go _ _ hat a4⟩
          · exact .inr (.inl ⟨a1, a2, a3, a4, go _ _ hat a5⟩)
          · exact .inr (.inr ⟨a1, r, go _ _ hat a2, a3⟩)
    · rw [if_neg h]
      have := open_end hu hb (by omega) (Bool.eq_false_iff.2 h) k1 k2 nm tx
      simpa using this
theorem open_f {l : Tx} (hl : BL l) (hs : l.length ≤ 1000000) : match opn l with
    | none => ∃ r : OpenR, Ev (fun k => mark_open.f k (strOfNums l)) r ∧ okOf r = false
    | some y => Ev (fun k => mark_open.f k (strOfNums l)) (1, 0, strOfNums y.1, y.2.1.map toA, ⟨#[]⟩, y.2.2.1, strOfNums y.2.2.2, true) := by
  have hr : BL (l.dropWhile part) := BL.dropWhile hl _
  have hlen := tw_len l part
  unfold opn
  cases hn : isName (l.takeWhile part) with
  | false =>
    simp only [Bool.false_eq_true, if_false]
    obtain ⟨r, h, ho⟩ := open_bad hr 1 0 (strOfNums (l.takeWhile part)) [] ⟨#[]⟩
    refine ⟨r, ?_, ho⟩
    unfold mark_open.f
    rw [named_f hl (by omega)]
    simp only [Option.bind_some, hn]
    exact h
  | true =>
    simp only [if_true]
    have := open_l0 1 0 (strOfNums (l.takeWhile part)) ⟨#[]⟩ l.length (l.dropWhile part) [] hr (by omega) (by simp) (by omega) (by simp; omega)
    have e : ∀ k, mark_open.f k (strOfNums l) = mark_open.l0 k (strOfNums (l.dropWhile part)) true 1 0 (strOfNums (l.takeWhile part)) (([] : List (Tx × Tx)).map toA) ⟨#[]⟩ := by
      intro k
      unfold mark_open.f
      rw [named_f hl (by omega)]
      simp only [Option.bind_some, hn]
      rfl
    simp only [e]
    cases hx : attrs l.length (l.dropWhile part) with
    | none => rw [hx] at this; exact this
    | some y =>
      rw [hx] at this
      simp only [List.nil_append] at this
      rcases this with ⟨a1, a2, a3, a4⟩ | ⟨a1, a2, a3, a4, a5⟩ | ⟨a1, r, a2, a3⟩
      · simp only [a1, a2, a3, and_self, if_true]
        exact a4
      · simp only [a1, a2, a3, a4, and_self, if_true, Bool.false_eq_true, if_false]
        exact a5
      · by_cases h1 : y.1.length ≤ 64 ∧ dup y.1 = false
        · have h2 : [47, 62].isPrefixOf y.2 = false := by
            rw [Bool.eq_false_iff]; intro h; exact a1 ⟨h1.1, h1.2, .inl h⟩
          have h3 : [62].isPrefixOf y.2 = false := by
            rw [Bool.eq_false_iff]; intro h; exact a1 ⟨h1.1, h1.2, .inr h⟩
          simp only [h1, h2, h3, and_self, if_true, Bool.false_eq_true, if_false]
          exact ⟨r, a2, a3⟩
        · simp only [if_neg h1]
          exact ⟨r, a2, a3⟩
end Go.Proofs.YtdlblokojlhmbaaDoor.MP
end
section
set_option linter.unusedVariables false
set_option linter.unusedSimpArgs false
namespace Go.Proofs.YtdlblokojlhmbaaDoor.MP
open Go.RowKit Go.Proofs.YtdlblokojlhmbaaDoorW.PrintWords Go.Proofs.YtdlblokojlhmbaaDoor.BL Go.Proofs.YtdlblokojlhmbaaDoor.Q
theorem attrs_bl : ∀ (d : Nat) (u : Tx) (y : List (Tx × Tx) × Tx), BL u → attrs d u = some y → BL y.2 ∧ y.2.length ≤ u.length ∧ (∀ x ∈ y.1, BL x.1 ∧ BL x.2) ∧ y.1.length ≤ d
  | 0, u, y, hu, h => by
    obtain rfl := Option.some.inj h
    exact ⟨hu, Nat.le_refl _, by simp, by simp⟩
  | d + 1, u, y, hu, h => by
    simp only [attrs] at h
    split at h
    · cases hx : attr (u.drop 1) with
      | none => rw [hx] at h; simp at h
      | some x =>
        rw [hx] at h
        simp only [Option.map_eq_some_iff] at h
        obtain ⟨z, hz, rfl⟩ := h
        have hab := attr_bl (hu.drop 1) hx
        have := attrs_bl d x.2 z hab.2.2.1 hz
        have hdl : (u.drop 1).length = u.length - 1 := by simp
        refine ⟨this.1, by have := this.2.1; show z.2.length ≤ u.length; omega, ?_, by have := this.2.2.2; simp; omega⟩
        intro w hw
        rcases List.mem_cons.1 hw with rfl | hw
        · exact ⟨hab.1, hab.2.1⟩
        · exact this.2.2.1 w hw
    · obtain rfl := Option.some.inj h
      exact ⟨hu, Nat.le_refl _, by simp, by simp⟩
theorem opn_bl {l : Tx} (hl : BL l) {y : Tx × List (Tx × Tx) × Bool × Tx} (h : opn l = some y) : BL y.1 ∧ (∀ x ∈ y.2.1, BL x.1 ∧ BL x.2) ∧ BL y.2.2.2 ∧ y.2.2.2.length ≤ l.length := by
  have hlen := tw_len l part
  unfold opn at h
  split at h
  · cases hx : attrs l.length (l.dropWhile part) with
    | none => rw [hx] at h; simp at h
    | some x =>
      rw [hx] at h
      have hb := attrs_bl _ _ _ (BL.dropWhile hl _) hx
      have hn := BL.takeWhile hl part
      simp only at h
      split at h
      · split at h
        · obtain rfl := Option.some.inj h
          exact ⟨hn, hb.2.2.1, hb.1.drop _, by have := hb.2.1; simp; omega⟩
        split at h
        · obtain rfl := Option.some.inj h
          exact ⟨hn, hb.2.2.1, hb.1.drop _, by have := hb.2.1; simp; omega⟩
        · simp at h
      · simp at h
  · simp at h
theorem first_bl {l : Tx} (hl : BL l) (hne : l ≠ []) {y : List M × Tx} (h : first l = some y) : BL y.2 ∧ y.2.length < l.length ∧ y.1.length ≤ 2 := by
  have hpos : 0 < l.length := List.length_pos_iff.2 hne
  unfold first at h
  split at h
  · rename_i hp
    have := prefix_len hp
    simp only [List.length_cons, List.length_nil] at this
    have hlen := tw_len (l.drop 2) part
    have h2 : (l.drop 2).length = l.length - 2 := by simp
    split at h
    · obtain rfl := Option.some.inj h
      exact ⟨(BL.dropWhile (hl.drop 2) part).drop 1, by simp; omega, by simp⟩
    · simp at h
  split at h
  · rename_i hp
    have := prefix_len hp
    have h2 : (l.drop 1).length = l.length - 1 := by simp
    cases hx : opn (l.drop 1) with
    | none => rw [hx] at h; simp at h
    | some x =>
      rw [hx] at h
      have hb := opn_bl (hl.drop 1) hx
      obtain ⟨n, ats, both, t⟩ := x
      obtain rfl := Option.some.inj h
      refine ⟨hb.2.2.1, by have := hb.2.2.2; show t.length < l.length; simp only at this; omega, ?_⟩
      show (_ :: (if both = true then _ else _)).length ≤ 2
      split <;> simp
  · rename_i hp2
    cases hm : mean (l.takeWhile (· != 60)) 0 with
    | none => rw [hm] at h; simp at h
    | some m =>
      rw [hm] at h
      obtain rfl := Option.some.inj h
      refine ⟨BL.dropWhile hl _, ?_, by simp⟩
      have hlen := tw_len l (· != 60)
      cases l with
      | nil => exact absurd rfl hne
      | cons c r =>
        have hc : (c != 60) = true := by
          rw [bne_iff_ne]
          rintro rfl
          exact hp2 (by simp [List.isPrefixOf])
        rw [List.takeWhile_cons, if_pos hc] at hlen
        simp only [List.length_cons] at hlen ⊢
        omega
theorem first_f {l : Tx} (hl : BL l) (hs : l.length ≤ 1000000) : match first l with
    | none => ∃ r : List S38 × ByteArray × Bool, Ev (fun k => mark_first.f k (strOfNums l)) r ∧ r.2.2 = false
    | some y => Ev (fun k => mark_first.f k (strOfNums l)) (y.1.map toM, strOfNums y.2, true) := by
  have e : ∀ k, mark_first.f k (strOfNums l) = (if [60, 47].isPrefixOf l = true then ((mark_named.f (strOfNums (l.drop 2))).bind fun bt139 => ((strings_CutPrefix.f bt139.2.1 (⟨#[62]⟩ : ByteArray)).bind fun bt142 => (if bt139.2.2 = true then (some ([(⟨2, 0, bt139.1, ([] : List (S51)), (⟨#[]⟩ : ByteArray)⟩ : S38)], bt142.1, bt142.2)) else (some ([(⟨2, 0, bt139.1, ([] : List (S51)), (⟨#[]⟩ : ByteArray)⟩ : S38)], bt142.1, false)))))
      else (if [60].isPrefixOf l = true then ((mark_open.f k (strOfNums (l.drop 1))).bind fun bt149 => (if bt149.2.2.2.2.2.1 = true then (some (([(⟨bt149.1, bt149.2.1, bt149.2.2.1, bt149.2.2.2.1, bt149.2.2.2.2.1⟩ : S38)] ++ [(⟨2, 0, bt149.2.2.1, ([] : List (S51)), (⟨#[]⟩ : ByteArray)⟩ : S38)]), bt149.2.2.2.2.2.2.1, bt149.2.2.2.2.2.2.2)) else (some ([(⟨bt149.1, bt149.2.1, bt149.2.2.1, bt149.2.2.2.1, bt149.2.2.2.2.1⟩ : S38)], bt149.2.2.2.2.2.2.1, bt149.2.2.2.2.2.2.2))))
      else ((mark_cut_less.f (strOfNums l)).bind fun bt166 => ((mark_meant.f k bt166.1).bind fun bt168 => (some ([(⟨3, 0, (⟨#[]⟩ : ByteArray), ([] : List (S51)), bt168.1⟩ : S38)], bt166.2, bt168.2)))))) := by
    intro k
    unfold mark_first.f
    simp only [cut1 hl [60, 47] (bl_dec rfl) (⟨#[60, 47]⟩ : ByteArray) rfl, cut1 hl [60] (bl_dec rfl) (⟨#[60]⟩ : ByteArray) rfl, Option.bind_some]
    by_cases h1 : [60, 47].isPrefixOf l = true
    · simp only [if_pos h1, if_true]
      rfl
    · simp only [if_neg h1, Bool.false_eq_true, if_false]
      by_cases h2 : [60].isPrefixOf l = true
      · simp only [if_pos h2, if_true]
        rfl
      · simp only [if_neg h2, Bool.false_eq_true, if_false]
  simp only [e]
  unfold first
  by_cases h1 : [60, 47].isPrefixOf l = true
  · simp only [if_pos h1]
    have h2 : (l.drop 2).length = l.length - 2 := by simp
    have hdw : BL ((l.drop 2).dropWhile part) := BL.dropWhile (hl.drop 2) _
    simp only [named_f (hl.drop 2) (by omega), Option.bind_some, cut1 hdw [62] (bl_dec rfl) (⟨#[62]⟩ : ByteArray) rfl]
    cases hn : isName ((l.drop 2).takeWhile part) with
    | false =>
      simp only [Bool.false_eq_true, if_false, false_and]
      exact ⟨_, Ev.now _, rfl⟩
    | true =>
      simp only [if_true, true_and]
      by_cases h3 : [62].isPrefixOf ((l.drop 2).dropWhile part) = true
      · simp only [if_pos h3]
        exact Ev.now _
      · simp only [if_neg h3]
        exact ⟨_, Ev.now _, rfl⟩
  · simp only [if_neg h1]
    by_cases h2 : [60].isPrefixOf l = true
    · simp only [if_pos h2]
      have h3 : (l.drop 1).length = l.length - 1 := by simp
      have ho := open_f (hl.drop 1) (by omega)
      cases hx : opn (l.drop 1) with
      | none =>
        rw [hx] at ho
        obtain ⟨r, hr, hr2⟩ := ho
        have hr2' : r.2.2.2.2.2.2.2 = false := hr2
        cases hb : r.2.2.2.2.2.1 with
        | true =>
          refine ⟨_, Ev.bind hr (r := ([(⟨r.1, r.2.1, r.2.2.1, r.2.2.2.1, r.2.2.2.2.1⟩ : S38)] ++ [(⟨2, 0, r.2.2.1, ([] : List (S51)), (⟨#[]⟩ : ByteArray)⟩ : S38)], r.2.2.2.2.2.2.1, r.2.2.2.2.2.2.2)) ?_, hr2'⟩
          simp only [hb, if_true]
          exact Ev.now _
        | false =>
          refine ⟨_, Ev.bind hr (r := ([(⟨r.1, r.2.1, r.2.2.1, r.2.2.2.1, r.2.2.2.2.1⟩ : S38)], r.2.2.2.2.2.2.1, r.2.2.2.2.2.2.2)) ?_, hr2'⟩
          simp only [hb, Bool.false_eq_true, if_false]
          exact Ev.now _
      | some y =>
        rw [hx] at ho
        obtain ⟨n, ats, both, t⟩ := y
        refine Ev.bind ho ?_
        cases both with
        | true => simp only [if_true]; exact Ev.now _
        | false => simp only [Bool.false_eq_true, if_false]; exact Ev.now _
    · simp only [if_neg h2]
      have hlen := tw_len l (· != 60)
      simp only [mark_cut_less.f, cut_at hl (fun x => x != 60) (by omega), ne_fun, Option.bind_some]
      have hm := meant_f (BL.takeWhile hl (· != 60)) (by omega)
      cases hx : mean (l.takeWhile (· != 60)) 0 with
      | none =>
        rw [hx] at hm
        exact ⟨_, Ev.bind hm (Ev.now _), rfl⟩
      | some m =>
        rw [hx] at hm
        refine Ev.bind hm ?_
        exact Ev.now _
def setAt (a : Int) (m : M) : M := { m with at_ := a }
theorem rd_map (ms : List M) (i : Nat) (hi : i < ms.length) : rd_T38 (ms.map toM) (i : Int) = toM ms[i] := by
  unfold rd_T38
  rw [show ((i : Int)).toNat = i from rfl, List.getD_eq_getElem?_getD, List.getElem?_map, List.getElem?_eq_getElem hi]
  rfl
theorem read_l1 (x0 : ByteArray) (W a : Int) (ms : List M) (hms : ms.length ≤ 1000000) (r : List S38 × Int × Int) : ∀ (d i : Nat) (acc : List M), i + d = ms.length → acc.length + d < 1954687338268 →
    Ev (fun k => mark_Read.l0 k x0 ((acc ++ (ms.drop i).map (setAt a)).map toM) W) r → Ev (fun k => mark_Read.l1 k x0 (acc.map toM) W a (ms.map toM) (ms.length : Int) (i : Int)) r
  | 0, i, acc, hi, ha, h => by
    refine Ev.step (fun k => by rw [mark_Read.l1]) ?_
    simp only [if_neg (show ¬ ((i : Int) < (ms.length : Int)) by omega)]
    rw [List.drop_eq_nil_of_le (by omega)] at h
    simpa using h
  | d + 1, i, acc, hi, ha, h => by
    refine Ev.step (fun k => by rw [mark_Read.l1]) ?_
    have hlt : i < ms.length := by omega
    simp only [if_pos (show ((i : Int) < (ms.length : Int)) by omega), if_pos (show (0 : Int) ≤ (i : Int) by omega), List.length_map, if_pos (show acc.length < 1954687338268 by omega), rd_map ms i hlt]
    rw [List.drop_eq_getElem_cons hlt] at h
    have := read_l1 x0 W a ms hms r d (i + 1) (acc ++ [setAt a ms[i]]) (by omega) (by simp; omega) (by rw [List.append_assoc]; exact h)
    simp only [wrapS (x := (i : Int) + 1) (by omega) (by omega)]
    simpa [toM, setAt] using this
def readR (acc : List M) : Sum Int (List M) → List S38 × Int × Int
  | .inl e => ([], e, 4)
  | .inr r => ((acc ++ r).map toM, 0, 0)
theorem read_l0 : ∀ (d : Nat) (l : Tx) (acc : List M) (a W : Int), BL l → l.length ≤ d → l.length ≤ 20000 → 0 ≤ a → a + l.length = W → W ≤ 20000 → acc.length + 2 * l.length ≤ 50000 →
    Ev (fun k => mark_Read.l0 k (strOfNums l) (acc.map toM) W) (readR acc (read d l a)) := by
  intro d
  induction d with
  | zero =>
    intro l acc a W hl hd hs h0 ha hW hacc
    have : l = [] := List.length_eq_zero_iff.1 (by omega)
    subst this
    refine Ev.step (fun k => by rw [mark_Read.l0]) ?_
    simp only [nil_toList hl, if_true, read, readR, List.append_nil]
    exact Ev.now _
  | succ d ih =>
    intro l acc a W hl hd hs h0 ha hW hacc
    refine Ev.step (fun k => by rw [mark_Read.l0]) ?_
    simp only [nil_toList hl]
    cases l with
    | nil =>
      simp only [if_true, read, readR, List.append_nil]
      exact Ev.now _
    | cons c r =>
      simp only [reduceCtorEq, if_false, size_str]
      have hw : wrap64 (W - (((c :: r).length : Nat) : Int)) = a := by rw [wrapS (by omega) (by omega)]; omega
      simp only [hw]
      have hf := first_f hl (by omega)
      simp only [read]
      cases hx : first (c :: r) with
      | none =>
        rw [hx] at hf
        obtain ⟨q, hq, hq2⟩ := hf
        refine Ev.bind hq ?_
        simp only [hq2, Bool.false_eq_true, if_false]
        exact Ev.now _
      | some y =>
        rw [hx] at hf
        have hb := first_bl hl (by simp) hx
        refine Ev.bind hf ?_
        simp only [if_true, List.length_map]
        refine read_l1 _ W a y.1 (by omega) _ y.1.length 0 acc (by omega) (by omega) ?_
        rw [List.drop_zero]
        have hlen : (c :: r).length = r.length + 1 := by simp
        have := ih y.2 (acc ++ y.1.map (setAt a)) (a + ((r.length : Int) + 1 - (y.2.length : Int))) W hb.1 (by omega) (by omega) (by omega) (by omega) hW (by simp; omega)
        cases hz : read d y.2 (a + ((r.length : Int) + 1 - (y.2.length : Int))) with
        | inl e => rw [hz] at this; exact this
        | inr z =>
          rw [hz] at this
          simp only [readR, List.append_assoc] at this ⊢
          exact this
theorem read_f {l : Tx} (hl : BL l) (hs : l.length ≤ 20000) : Ev (fun k => mark_Read.f k (strOfNums l)) (readR [] (read l.length l 0)) := by
  have := read_l0 l.length l [] 0 l.length hl (Nat.le_refl _) hs (by omega) (by omega) (by omega) (by simp; omega)
  unfold mark_Read.f
  simp only [size_str, if_neg (show ¬ ((l.length : Int) > 20000) by omega)]
  exact this
theorem read_long (k : Nat) {s : ByteArray} (hs : (s.size : Int) > 20000) : mark_Read.f k s = some ([], 0, 2) := by
  unfold mark_Read.f
  rw [if_pos hs]
end Go.Proofs.YtdlblokojlhmbaaDoor.MP
end
section
set_option linter.unusedVariables false
set_option linter.unusedSimpArgs false
namespace Go.Proofs.YtdlblokojlhmbaaDoor.MP
open Go.RowKit Go.Proofs.YtdlblokojlhmbaaDoorW.PrintWords Go.Proofs.YtdlblokojlhmbaaDoor.BL Go.Proofs.YtdlblokojlhmbaaDoor.Q
theorem rat_f {l p : Tx} (hl : BL l) (hp : BL p) (q : ByteArray) (hq : q = strOfNums p) (i : Nat) (hi : i ≤ l.length) (hs : l.length ≤ 1000000) (hps : p.length ≤ 1000) : treenailref01_at.f (strOfNums l) (i : Int) q = some (p.isPrefixOf (l.drop i)) := by
  subst hq
  unfold treenailref01_at.f
  simp only [size_str]
  rw [wrapS (x := (l.length : Int) - (i : Int)) (by omega) (by omega), wrapS (x := (i : Int) + (p.length : Int)) (by omega) (by omega)]
  by_cases h : (l.length : Int) - (i : Int) ≥ (p.length : Int)
  · rw [if_pos h, if_pos (by omega), if_pos (by omega), if_pos (by omega)]
    rw [show ((i : Int)).toNat = i from rfl, show ((i : Int) + (p.length : Int)).toNat = i + p.length by omega, extract_str]
    congr 1
    rw [Bool.eq_iff_iff, prefix_iff, beq_iff_eq, toList_str ((hl.take _).drop _) hp, List.drop_take]
    rw [show i + p.length - i = p.length by omega]
  · rw [if_neg h]
    congr 1
    symm
    rw [Bool.eq_false_iff]
    intro h'
    have := prefix_len h'
    simp at this
    omega
theorem inName_f (c : Int) (b : Bool) : treenailref01_inName.f c b = some (letter c || (!b && (decide (c = 45) || (decide (48 ≤ c) && decide (c ≤ 57))))) := by
  have h2 : (if b = true then some false else if c = 45 then some true else if c ≥ 48 then some (decide (c ≤ 57)) else some false) = some (!b && (decide (c = 45) || (decide (48 ≤ c) && decide (c ≤ 57)))) := by
    cases b with
    | true => rfl
    | false =>
      simp only [Bool.false_eq_true, if_false, Bool.not_false, Bool.true_and]
      by_cases h1 : c = 45
      · rw [if_pos h1]; simp [h1]
      · rw [if_neg h1]
        by_cases h2 : c ≥ 48
        · rw [if_pos h2]; simp [h1, show (48 : Int) ≤ c from h2]
        · rw [if_neg h2]; simp [h1, show ¬ (48 : Int) ≤ c from h2]
  unfold treenailref01_inName.f letter
  rw [h2]
  by_cases h3 : c ≥ 97
  · rw [if_pos h3]
    by_cases h4 : c ≤ 122
    · rw [if_pos h4]; simp [h4, show (97 : Int) ≤ c from h3]
    · rw [if_neg h4]; simp [h4, show (97 : Int) ≤ c from h3]
  · rw [if_neg h3]; simp [show ¬ (97 : Int) ≤ c from h3]
theorem inName_part (c : Int) : treenailref01_inName.f c false = some (part c) := by
  rw [inName_f]
  unfold part
  congr 1
  cases letter c <;> cases decide (c = 45) <;> cases (decide (48 ≤ c) && decide (c ≤ 57)) <;> rfl
theorem inName_letter (c : Int) : treenailref01_inName.f c true = some (letter c) := by
  rw [inName_f]
  simp
theorem letter_isPart {c : Int} (h : letter c = true) : part c = true := by simp [part, h]
def nm0 : Tx → Bool
  | [] => true
  | c :: r => letter c && r.all part
theorem rName_l0 {l : Tx} (hl : BL l) (hs : l.length ≤ 1000000) : ∀ (d i : Nat), i ≤ l.length → l.length - i ≤ d → Ev (fun k => treenailref01_Name.l0 k (strOfNums l) (i : Int)) (if i = 0 then (nm0 l) else (l.drop i).all part)
  | d, i, hi, hd => by
    refine Ev.step (fun k => by rw [treenailref01_Name.l0]) ?_
    simp only [size_str]
    by_cases h : i < l.length
    · obtain ⟨d, rfl⟩ : ∃ e, d = e + 1 := ⟨d - 1, by omega⟩
      simp only [if_pos (show (i : Int) < (l.length : Int) by omega), if_pos (show (0 : Int) ≤ (i : Int) by omega), bt_str hl, show ((i : Int)).toNat = i from rfl, wrapS (x := (i : Int) + 1) (by omega) (by omega)]
      have ih := rName_l0 hl hs d (i + 1) (by omega) (by omega)
      rw [if_neg (by omega)] at ih
      by_cases h0 : i = 0
      · subst h0
        simp only [show (((0 : Nat) : Int) == 0) = true from rfl, inName_letter, Option.bind_some, if_true]
        cases l with
        | nil => simp at h
        | cons c r =>
          simp only [List.getD_cons_zero, nm0]
          cases hc : letter c with
          | true => simp only [if_true, Bool.true_and]; simpa using ih
          | false => simp only [Bool.false_eq_true, if_false, Bool.false_and]; exact Ev.now _
      · have hz : ((i : Int) == 0) = false := by rw [beq_eq_false_iff_ne]; omega
        simp only [hz, inName_part, Option.bind_some, if_neg h0]
        rw [getD_drop l i h, List.all_cons]
        cases hc : part (l.getD i 0) with
        | true => simp only [if_true, Bool.true_and]; exact ih
        | false => simp only [Bool.false_eq_true, if_false, Bool.false_and]; exact Ev.now _
    · simp only [if_neg (show ¬ (i : Int) < (l.length : Int) by omega)]
      have hi' : i = l.length := by omega
      by_cases h0 : i = 0
      · have : l = [] := List.length_eq_zero_iff.1 (by omega)
        subst this
        simp only [if_pos h0]
        exact Ev.now _
      · simp only [if_neg h0]
        rw [List.drop_eq_nil_of_le (by omega)]
        exact Ev.now _
termination_by d => d
theorem rName_f {l : Tx} (hl : BL l) : Ev (fun k => treenailref01_Name.f k (strOfNums l)) (isName l) := by
  have hj : ∀ b : Bool, (b = false → l.length ≤ 24) → Ev (fun k => treenailref01_Name.j0 k (strOfNums l) b) (!b && (nm0 l)) := by
    intro b hb
    refine Ev.step (fun k => by rw [treenailref01_Name.j0]) ?_
    cases b with
    | true => simp only [if_true]; exact Ev.now _
    | false =>
      have h0 := rName_l0 hl (by have := hb rfl; omega) l.length 0 (by omega) (by omega)
      simp only [if_true] at h0
      simp only [Bool.false_eq_true, if_false, Bool.not_false, Bool.true_and]
      exact h0
  unfold treenailref01_Name.f isName
  simp only [size_str]
  cases l with
  | nil =>
    simp only [List.length_nil, if_pos (show ((0 : Nat) : Int) < 1 by omega)]
    exact hj true (by simp)
  | cons c r =>
    simp only [if_neg (show ¬ (((c :: r).length : Nat) : Int) < 1 by simp; omega)]
    have := hj (decide ((((c :: r).length : Nat) : Int) > 24)) (fun h => by have := of_decide_eq_false h; omega)
    by_cases h24 : (c :: r).length ≤ 24
    · have e : decide ((((c :: r).length : Nat) : Int) > 24) = false := decide_eq_false (by omega)
      rw [e] at this ⊢
      simp only [h24]
      cases hc : letter c with
      | true =>
        have hp := letter_isPart hc
        simpa [hc, hp, nm0] using this
      | false => simpa [hc, nm0] using this
    · have e : decide ((((c :: r).length : Nat) : Int) > 24) = true := decide_eq_true (by omega)
      rw [e] at this ⊢
      have h24' : ¬ r.length ≤ 23 := by simp only [List.length_cons] at h24; omega
      simpa [h24'] using this
theorem rname_l0 {l : Tx} (hl : BL l) (hs : l.length ≤ 1000000) (i0 : Nat) : ∀ (d i : Nat), i0 ≤ i → i ≤ l.length → l.length - i ≤ d → i = i0 + ((l.drop i0).takeWhile part).length - ((l.drop i).takeWhile part).length → ((l.drop i).takeWhile part).length ≤ ((l.drop i0).takeWhile part).length →
    Ev (fun k => treenailref01_name.l0 k (strOfNums l) (i0 : Int) (i : Int)) (if isName ((l.drop i0).takeWhile part) = true then ((i0 : Int) + (((l.drop i0).takeWhile part).length : Int), strOfNums ((l.drop i0).takeWhile part)) else (-1, ⟨#[]⟩))
  | d, i, h1, h2, h3, h4, h5 => by
    have hfin : (l.drop i).takeWhile part = [] → Ev (fun k => (if (0 : Int) ≤ (i0 : Int) then (if (i0 : Int) ≤ (i : Int) then (if (i : Int) ≤ (l.length : Int) then ((treenailref01_Name.f k ((strOfNums l).extract ((i0 : Int) : Int).toNat ((i : Int) : Int).toNat)).bind fun t197 => (if t197 = true then (some ((i : Int), (strOfNums l).extract ((i0 : Int) : Int).toNat ((i : Int) : Int).toNat)) else (some ((-1), (⟨#[]⟩ : ByteArray))))) else (none)) else (none)) else (none))) (if isName ((l.drop i0).takeWhile part) = true then ((i0 : Int) + (((l.drop i0).takeWhile part).length : Int), strOfNums ((l.drop i0).takeWhile part)) else (-1, ⟨#[]⟩)) := by
      intro he
      rw [he] at h4
      simp only [List.length_nil, Nat.sub_zero] at h4
      have hx : (strOfNums l).extract ((i0 : Int) : Int).toNat ((i : Int) : Int).toNat = strOfNums ((l.drop i0).takeWhile part) := by
        rw [show ((i0 : Int)).toNat = i0 from rfl, show ((i : Int)).toNat = i from rfl, extract_str, List.drop_take, h4, show i0 + ((l.drop i0).takeWhile part).length - i0 = ((l.drop i0).takeWhile part).length by omega, take_takeWhile]
      simp only [hx, if_pos (show (0 : Int) ≤ (i0 : Int) by omega), if_pos (show (i0 : Int) ≤ (i : Int) by omega), if_pos (show (i : Int) ≤ (l.length : Int) by omega)]
      refine Ev.bind (rName_f (BL.takeWhile (hl.drop _) _)) ?_
      by_cases hn : isName ((l.drop i0).takeWhile part) = true
      · simp only [if_pos hn, show (i : Int) = (i0 : Int) + (((l.drop i0).takeWhile part).length : Int) by omega]
        exact Ev.now _
      · simp only [if_neg hn]
        exact Ev.now _
    refine Ev.step (fun k => by rw [treenailref01_name.l0]) ?_
    simp only [size_str]
    by_cases h : i < l.length
    · obtain ⟨d, rfl⟩ : ∃ e, d = e + 1 := ⟨d - 1, by omega⟩
      simp only [if_pos (show (i : Int) < (l.length : Int) by omega), if_pos (show (0 : Int) ≤ (i : Int) by omega), bt_str hl, show ((i : Int)).toNat = i from rfl, inName_part, Option.bind_some, wrapS (x := (i : Int) + 1) (by omega) (by omega)]
      have hd := getD_drop l i h
      cases hc : part (l.getD i 0) with
      | true =>
        simp only [if_true]
        have e1 : ((l.drop i).takeWhile part).length = ((l.drop (i + 1)).takeWhile part).length + 1 := by
          rw [hd, List.takeWhile_cons, if_pos hc, List.length_cons]
        exact rname_l0 hl hs i0 d (i + 1) (by omega) (by omega) (by omega) (by omega) (by omega)
      | false =>
        simp only [Bool.false_eq_true, if_false]
        refine hfin ?_
        rw [hd, List.takeWhile_cons, if_neg (by rw [hc]; simp)]
    · simp only [if_neg (show ¬ (i : Int) < (l.length : Int) by omega)]
      refine hfin ?_
      rw [List.drop_eq_nil_of_le (by omega)]
      rfl
termination_by d => d
def nameR (i : Nat) (n : Tx) : Int × ByteArray := if isName n = true then ((i : Int) + (n.length : Int), strOfNums n) else (-1, ⟨#[]⟩)
theorem rname_f {l : Tx} (hl : BL l) (hs : l.length ≤ 1000000) (i : Nat) (hi : i ≤ l.length) : Ev (fun k => treenailref01_name.f k (strOfNums l) (i : Int)) (nameR i ((l.drop i).takeWhile part)) :=
  rname_l0 hl hs i (l.length) i (Nat.le_refl _) hi (by omega) (by omega) (Nat.le_refl _)
theorem rplain_f (c : Int) : treenailref01_Plain.f c = some (plain c) := by
  unfold treenailref01_Plain.f plain
  by_cases h1 : c = 10
  · rw [if_pos h1]; simp [h1]
  · rw [if_neg h1]
    by_cases h2 : c > 31
    · rw [if_pos h2]
      congr 1
      rw [Bool.eq_iff_iff]
      simp [h1]
      omega
    · rw [if_neg h2]
      congr 1
      symm
      rw [Bool.eq_false_iff]
      simp [h1]
      omega
end Go.Proofs.YtdlblokojlhmbaaDoor.MP
end
section
set_option linter.unusedVariables false
set_option linter.unusedSimpArgs false
namespace Go.Proofs.YtdlblokojlhmbaaDoor.MP
open Go.RowKit Go.Proofs.YtdlblokojlhmbaaDoorW.PrintWords Go.Proofs.YtdlblokojlhmbaaDoor.BL Go.Proofs.YtdlblokojlhmbaaDoor.Q
def sg (c : Int) : Tx := if c = 60 then [38, 108, 116, 59] else if c = 62 then [38, 103, 116, 59] else if c = 38 then [38, 97, 109, 112, 59] else if c = 34 then [38, 113, 117, 111, 116, 59] else []
theorem sign_f (c : Int) : treenailref01_sign.f c = some (strOfNums (sg c)) := by
  unfold treenailref01_sign.f sg
  by_cases h1 : c = 60
  · rw [if_pos h1, if_pos h1]; rfl
  by_cases h2 : c = 62
  · rw [if_neg h1, if_neg h1, if_pos h2, if_pos h2]; rfl
  by_cases h3 : c = 38
  · rw [if_neg h1, if_neg h1, if_neg h2, if_neg h2, if_pos h3, if_pos h3]; rfl
  by_cases h4 : c = 34
  · rw [if_neg h1, if_neg h1, if_neg h2, if_neg h2, if_neg h3, if_neg h3, if_pos h4, if_pos h4]; rfl
  · rw [if_neg h1, if_neg h1, if_neg h2, if_neg h2, if_neg h3, if_neg h3, if_neg h4, if_neg h4]; rfl
theorem sg_bl (c : Int) : BL (sg c) ∧ (sg c).length ≤ 1000 := by
  unfold sg
  split
  · exact ⟨bl_dec rfl, by simp⟩
  split
  · exact ⟨bl_dec rfl, by simp⟩
  split
  · exact ⟨bl_dec rfl, by simp⟩
  split
  · exact ⟨bl_dec rfl, by simp⟩
  · exact ⟨BL.nil, by simp⟩
/-- One byte of a text, and how many stand for it. -/
def oneP (l : Tx) : Option (Int × Nat) := match l with
  | [] => none
  | c :: r => if c = 38 then find (c :: r) else if plain c = true then some (c, 1) else none
def oneR (i : Nat) : Option (Int × Nat) → Int × ByteArray
  | none => (-1, ⟨#[]⟩)
  | some x => ((i : Int) + (x.2 : Int), strOfNums [x.1])
def chk (l : Tx) : List Int → Option (Int × Nat)
  | [] => none
  | c :: r => if (sg c).isPrefixOf l = true then some (c, (sg c).length) else chk l r
theorem chk_find (l : Tx) : chk l [60, 62, 38, 34] = find l := by
  simp only [chk, sg, find]
  simp
theorem one_l0 {l : Tx} (hl : BL l) (hs : l.length ≤ 1000000) (i : Nat) (hi : i ≤ l.length) (cs : List Int) (hcs : cs.length ≤ 1000) : ∀ (d j : Nat), j + d = cs.length →
    Ev (fun k => treenailref01_one.l0 k (strOfNums l) (i : Int) cs (cs.length : Int) (j : Int)) (oneR i (chk (l.drop i) (cs.drop j)))
  | 0, j, hj => by
    refine Ev.step (fun k => by rw [treenailref01_one.l0]) ?_
    simp only [if_neg (show ¬ (j : Int) < (cs.length : Int) by omega)]
    have e0 : cs.drop j = [] := List.drop_eq_nil_of_le (by omega)
    rw [e0]
    exact Ev.now _
  | d + 1, j, hj => by
    refine Ev.step (fun k => by rw [treenailref01_one.l0]) ?_
    have hlt : j < cs.length := by omega
    have e : rd cs (j : Int) = cs.getD j 0 := by unfold rd; rfl
    have sb := sg_bl (cs.getD j 0)
    simp only [if_pos (show (j : Int) < (cs.length : Int) by omega), if_pos (show (0 : Int) ≤ (j : Int) by omega), sign_f, Option.bind_some, e, rat_f hl sb.1 (strOfNums (sg (cs.getD j 0))) rfl i hi hs sb.2, size_str]
    rw [getD_drop cs j hlt]
    simp only [chk]
    cases hp : (sg (cs.getD j 0)).isPrefixOf (l.drop i) with
    | true =>
      simp only [if_true, oneR, wrapS (x := (i : Int) + ((sg (cs.getD j 0)).length : Int)) (by omega) (by omega)]
      exact Ev.now _
    | false =>
      simp only [Bool.false_eq_true, if_false, wrapS (x := (j : Int) + 1) (by omega) (by omega)]
      exact one_l0 hl hs i hi cs hcs d (j + 1) (by omega)
theorem one_f {l : Tx} (hl : BL l) (hs : l.length ≤ 1000000) (i : Nat) (hi : i < l.length) : Ev (fun k => treenailref01_one.f k (strOfNums l) (i : Int)) (oneR i (oneP (l.drop i))) := by
  unfold treenailref01_one.f
  have hd := getD_drop l i hi
  simp only [size_str, if_pos (show (0 : Int) ≤ (i : Int) by omega), if_pos (show (i : Int) < (l.length : Int) by omega), bt_str hl, show ((i : Int)).toNat = i from rfl, rplain_f, Option.bind_some, wrapS (x := (i : Int) + 1) (by omega) (by omega)]
  rw [hd]
  simp only [oneP]
  by_cases h38 : l.getD i 0 = 38
  · simp only [if_pos h38]
    have := one_l0 hl hs i (by omega) [60, 62, 38, 34] (by simp) 4 0 rfl
    rw [List.drop_zero, chk_find, hd] at this
    exact this
  · simp only [if_neg h38]
    by_cases hp : plain (l.getD i 0) = true
    · have hx : (strOfNums l).extract i ((i : Int) + 1).toNat = strOfNums [l.getD i 0] := by
        rw [show ((i : Int) + 1).toNat = i + 1 by omega, extract_str, List.drop_take, show i + 1 - i = 1 by omega, hd]
        rfl
      simp only [if_pos hp, if_pos (show (i : Int) ≤ (i : Int) + 1 by omega), if_pos (show (i : Int) + 1 ≤ (l.length : Int) by omega), hx, oneR]
      exact Ev.now _
    · simp only [if_neg hp]
      exact Ev.now _
theorem tw_prefix {p l : Tx} {q : Int → Bool} (hq : p.all q = true) : p.isPrefixOf (l.takeWhile q) = p.isPrefixOf l := by
  induction p generalizing l with
  | nil => simp
  | cons a p ih =>
    cases l with
    | nil => rfl
    | cons b l =>
      simp only [List.all_cons, Bool.and_eq_true] at hq
      rw [List.takeWhile_cons]
      by_cases hb : q b = true
      · rw [if_pos hb]
        simp only [List.isPrefixOf]
        rw [ih hq.2]
      · rw [if_neg hb]
        simp only [List.isPrefixOf]
        by_cases hab : a = b
        · subst hab; exact absurd hq.1 hb
        · have : (a == b) = false := beq_eq_false_iff_ne.2 hab
          rw [this]
          rfl
theorem find_tw (l : Tx) (st : Int) (h : st = 34 ∨ st = 60) : find (l.takeWhile (· != st)) = find l := by
  unfold find
  rcases h with rfl | rfl
  all_goals
    rw [tw_prefix (by decide), tw_prefix (by decide), tw_prefix (by decide), tw_prefix (by decide)]
theorem tw_drop (l : Tx) (q : Int → Bool) : ∀ n, n ≤ (l.takeWhile q).length → (l.drop n).takeWhile q = (l.takeWhile q).drop n := by
  induction l with
  | nil => intro n hn; simp
  | cons c r ih =>
    intro n hn
    cases n with
    | zero => rfl
    | succ n =>
      rw [List.takeWhile_cons] at hn ⊢
      split at hn
      · rename_i hc
        rw [if_pos hc]
        simp only [List.length_cons] at hn
        simpa using ih n (by omega)
      · simp at hn
def textR (i : Nat) (w : Tx) (o : Tx) : Option Tx → Int × ByteArray
  | none => (-1, ⟨#[]⟩)
  | some m => ((i : Int) + (w.length : Int), strOfNums (o ++ m))
theorem text_l0 {l : Tx} (hl : BL l) (hs : l.length ≤ 1000000) (st : Int) (hst : st = 34 ∨ st = 60) : ∀ (d i : Nat) (o : Tx), i ≤ l.length → l.length - i ≤ d → o.length ≤ i →
    Ev (fun k => treenailref01_text.l0 k (strOfNums l) (i : Int) st (strOfNums o)) (textR i ((l.drop i).takeWhile (· != st)) o (mean ((l.drop i).takeWhile (· != st)) 0))
  | d, i, o, hi, hd, ho => by
    refine Ev.step (fun k => by rw [treenailref01_text.l0]) ?_
    simp only [size_str]
    have hfin : ∀ (hw : (l.drop i).takeWhile (· != st) = []), Ev (fun k => treenailref01_text.j1 k (strOfNums l) (i : Int) st (strOfNums o) false) (textR i ((l.drop i).takeWhile (· != st)) o (mean ((l.drop i).takeWhile (· != st)) 0)) := by
      intro hw
      refine Ev.step (fun k => by rw [treenailref01_text.j1]) ?_
      simp only [Bool.false_eq_true, if_false, hw, mean, textR, List.append_nil, List.length_nil]
      simp only [show (i : Int) + ((0 : Nat) : Int) = (i : Int) by omega]
      exact Ev.now _
    by_cases h : i < l.length
    · obtain ⟨d, rfl⟩ : ∃ e, d = e + 1 := ⟨d - 1, by omega⟩
      have hdr := getD_drop l i h
      simp only [if_pos (show (i : Int) < (l.length : Int) by omega), if_pos (show (0 : Int) ≤ (i : Int) by omega), bt_str hl, show ((i : Int)).toNat = i from rfl]
      by_cases hc : l.getD i 0 = st
      · have e : (l.getD i 0 != st) = false := bne_eq_false_iff_eq.2 hc
        simp only [e]
        refine hfin ?_
        rw [hdr, List.takeWhile_cons, if_neg (by rw [e]; simp)]
      · have e : (l.getD i 0 != st) = true := bne_iff_ne.2 hc
        simp only [e]
        refine Ev.step (fun k => by rw [treenailref01_text.j1]) ?_
        simp only [if_true]
        refine Ev.bind (one_f hl hs i h) ?_
        have htw : (l.drop i).takeWhile (· != st) = l.getD i 0 :: (l.drop (i + 1)).takeWhile (· != st) := by
          rw [hdr, List.takeWhile_cons, if_pos e]
        have hft : find (l.getD i 0 :: (l.drop (i + 1)).takeWhile (· != st)) = find (l.drop i) := by
          rw [← htw, find_tw _ _ hst]
        rw [hdr] at hft
        rw [htw, hdr]
        simp only [oneP, mean, hft]
        by_cases h38 : l.getD i 0 = 38
        · have hpl : plain (l.getD i 0) = true := by rw [h38]; rfl
          have hpc : plain (l.getD i 0) = true ∧ l.getD i 0 ≠ 60 := ⟨hpl, by omega⟩
          simp only [if_pos h38, if_pos hpc]
          cases hf : find (l.getD i 0 :: l.drop (i + 1)) with
          | none =>
            simp only [oneR, show (-1 : Int) < 0 by omega, if_true]
            exact Ev.now _
          | some x =>
            have hb := find_bound hf
            have hft2 := hft
            rw [hf] at hft2
            have hb2 := find_bound hft2
            simp only [List.length_cons, List.length_drop] at hb hb2
            have h60 : ¬ (l.getD i 0 = 60) := by omega
            simp only [oneR, if_neg (show ¬ ((i : Int) + (x.2 : Int) < 0) by omega), if_pos (show (0 : Int) ≤ (i : Int) by omega), if_pos (show (i : Int) < (l.length : Int) by omega), bt_str hl, show ((i : Int)).toNat = i from rfl, if_neg h60, size_str, List.length_cons, List.length_nil, if_pos (show o.length + (0 + 1) ≤ 9223372036854775807 by omega), str_append]
            have ih := text_l0 hl hs st hst d (i + x.2) (o ++ [x.1]) (by omega) (by omega) (by simp; omega)
            have htd : (l.drop (i + x.2)).takeWhile (· != st) = ((l.drop (i + 1)).takeWhile (· != st)).drop (x.2 - 1) := by
              rw [← List.drop_drop, tw_drop _ _ x.2 (by rw [htw]; simpa using hb2.2.2.2), htw]
              obtain ⟨z, hz⟩ : ∃ z, x.2 = z + 1 := ⟨x.2 - 1, by omega⟩
              rw [hz]
              rfl
            rw [mean_drop ((l.drop (i + 1)).takeWhile (· != st)) (x.2 - 1), ← htd]
            cases hm : mean ((l.drop (i + x.2)).takeWhile (· != st)) 0 with
            | none => rw [hm] at ih; exact ih
            | some m =>
              rw [hm] at ih
              have hlen := congrArg List.length htd
              simp only [List.length_drop] at hlen
              simp only [textR, Option.map_some, List.append_assoc, List.singleton_append, List.length_cons] at ih ⊢
              rw [show (i : Int) + ((((l.drop (i + 1)).takeWhile (· != st)).length + 1 : Nat) : Int) = ((i + x.2 : Nat) : Int) + ((((l.drop (i + x.2)).takeWhile (· != st)).length : Nat) : Int) by omega]
              exact ih
        · simp only [if_neg h38]
          by_cases hpl : plain (l.getD i 0) = true
          · simp only [if_pos hpl, oneR]
            by_cases h60 : l.getD i 0 = 60
            · have hpc : ¬ (plain (l.getD i 0) = true ∧ l.getD i 0 ≠ 60) := fun h => h.2 h60
              simp only [if_neg hpc, if_neg (show ¬ ((i : Int) + ((1 : Nat) : Int) < 0) by omega), if_pos (show (0 : Int) ≤ (i : Int) by omega), size_str, if_pos (show (i : Int) < (l.length : Int) by omega), bt_str hl, show ((i : Int)).toNat = i from rfl, if_pos h60]
              exact Ev.now _
            · have hpc : plain (l.getD i 0) = true ∧ l.getD i 0 ≠ 60 := ⟨hpl, h60⟩
              simp only [if_neg (show ¬ ((i : Int) + ((1 : Nat) : Int) < 0) by omega), if_pos (show (0 : Int) ≤ (i : Int) by omega), if_pos (show (i : Int) < (l.length : Int) by omega), bt_str hl, show ((i : Int)).toNat = i from rfl, if_neg h60, if_pos hpc, size_str, List.length_cons, List.length_nil, if_pos (show o.length + (0 + 1) ≤ 9223372036854775807 by omega), str_append]
              have ih := text_l0 hl hs st hst d (i + 1) (o ++ [l.getD i 0]) (by omega) (by omega) (by simp; omega)
              cases hm : mean ((l.drop (i + 1)).takeWhile (· != st)) 0 with
              | none => rw [hm] at ih; exact ih
              | some m =>
                rw [hm] at ih
                simp only [textR, Option.map_some, List.append_assoc, List.singleton_append, List.length_cons] at ih ⊢
                rw [show (i : Int) + ((((l.drop (i + 1)).takeWhile (· != st)).length + 1 : Nat) : Int) = ((i + 1 : Nat) : Int) + ((((l.drop (i + 1)).takeWhile (· != st)).length : Nat) : Int) by omega]
                exact ih
          · have hpc : ¬ (plain (l.getD i 0) = true ∧ l.getD i 0 ≠ 60) := fun h => hpl h.1
            simp only [if_neg hpl, if_neg hpc, oneR, show (-1 : Int) < 0 by omega, if_true]
            exact Ev.now _
    · simp only [if_neg (show ¬ (i : Int) < (l.length : Int) by omega)]
      refine hfin ?_
      rw [List.drop_eq_nil_of_le (by omega)]
      rfl
termination_by d => d
theorem text_f {l : Tx} (hl : BL l) (hs : l.length ≤ 1000000) (st : Int) (hst : st = 34 ∨ st = 60) (i : Nat) (hi : i ≤ l.length) : Ev (fun k => treenailref01_text.f k (strOfNums l) (i : Int) st) (textR i ((l.drop i).takeWhile (· != st)) [] (mean ((l.drop i).takeWhile (· != st)) 0)) :=
  text_l0 hl hs st hst l.length i [] hi (by omega) (by simp)
def toB (x : Tx × Tx) : S60 := ⟨strOfNums x.1, strOfNums x.2⟩
theorem has_l0 {n : Tx} (hn : BL n) (ats : List (Tx × Tx)) (hb : ∀ x ∈ ats, BL x.1) (hs : ats.length ≤ 1000000) : ∀ (d i : Nat), i + d = ats.length → Ev (fun k => treenailref01_has.l0 k (strOfNums n) (ats.map toB) (ats.length : Int) (i : Int)) ((ats.drop i).any (fun x => x.1 == n))
  | 0, i, hi => by
    refine Ev.step (fun k => by rw [treenailref01_has.l0]) ?_
    simp only [if_neg (show ¬ (i : Int) < (ats.length : Int) by omega)]
    rw [List.drop_eq_nil_of_le (by omega)]
    exact Ev.now _
  | d + 1, i, hi => by
    refine Ev.step (fun k => by rw [treenailref01_has.l0]) ?_
    have hlt : i < ats.length := by omega
    have e : rd_T60 (ats.map toB) (i : Int) = toB ats[i] := by
      unfold rd_T60
      rw [show ((i : Int)).toNat = i from rfl, List.getD_eq_getElem?_getD, List.getElem?_map, List.getElem?_eq_getElem hlt]
      rfl
    simp only [if_pos (show (i : Int) < (ats.length : Int) by omega), if_pos (show (0 : Int) ≤ (i : Int) by omega), List.length_map, e, wrapS (x := (i : Int) + 1) (by omega) (by omega)]
    rw [List.drop_eq_getElem_cons hlt, List.any_cons]
    by_cases h : ats[i].1 = n
    · have h' : (toB ats[i]).f0.toList = (strOfNums n).toList := by simp [toB, h]
      simp only [if_pos h', h, beq_self_eq_true, Bool.true_or]
      exact Ev.now _
    · have h' : ¬ (toB ats[i]).f0.toList = (strOfNums n).toList := by
        intro h2
        exact h ((toList_str (hb _ (List.getElem_mem hlt)) hn).1 h2)
      have h2 : (ats[i].1 == n) = false := beq_eq_false_iff_ne.2 h
      simp only [if_neg h', h2, Bool.false_or]
      exact has_l0 hn ats hb hs d (i + 1) (by omega)
theorem has_f {n : Tx} (hn : BL n) (ats : List (Tx × Tx)) (hb : ∀ x ∈ ats, BL x.1) (hs : ats.length ≤ 1000000) : Ev (fun k => treenailref01_has.f k (ats.map toB) (strOfNums n)) (ats.any (fun x => x.1 == n)) := by
  have := has_l0 hn ats hb hs ats.length 0 (by omega)
  unfold treenailref01_has.f
  simpa using this
end Go.Proofs.YtdlblokojlhmbaaDoor.MP
end
section
set_option linter.unusedVariables false
set_option linter.unusedSimpArgs false
namespace Go.Proofs.YtdlblokojlhmbaaDoor.MP
open Go.RowKit Go.Proofs.YtdlblokojlhmbaaDoorW.PrintWords Go.Proofs.YtdlblokojlhmbaaDoor.BL Go.Proofs.YtdlblokojlhmbaaDoor.Q
theorem dup_app (x : Tx × Tx) : ∀ acc : List (Tx × Tx), dup (acc ++ [x]) = (dup acc || acc.any (fun y => y.1 == x.1))
  | [] => by simp [dup]
  | a :: r => by
    have ih := dup_app x r
    have e : (x.1 == a.1) = (a.1 == x.1) := by rw [Bool.eq_iff_iff, beq_iff_eq, beq_iff_eq]; exact ⟨fun h => h.symm, fun h => h.symm⟩
    simp only [List.cons_append, dup, List.any_append, List.any_cons, List.any_nil, Bool.or_false, ih, e]
    cases r.any (fun b => b.1 == a.1) <;> cases (a.1 == x.1) <;> cases dup r <;> simp
theorem dup_mono (b : List (Tx × Tx)) : ∀ a : List (Tx × Tx), dup a = true → dup (a ++ b) = true
  | [], h => by simp [dup] at h
  | x :: r, h => by
    simp only [dup, Bool.or_eq_true] at h
    simp only [List.cons_append, dup, List.any_append, Bool.or_eq_true]
    rcases h with h | h
    · exact .inl (.inl h)
    · exact .inr (dup_mono b r h)
abbrev OpenQ := Int × Int × ByteArray × List S60 × ByteArray × Int × Bool
def badQ : OpenQ := (0, 0, ⟨#[]⟩, [], ⟨#[]⟩, -1, false)
def endQ (l : Tx) (a : Int) (nm tx : ByteArray) (acc : List (Tx × Tx)) : Option (List (Tx × Tx) × Tx) → OpenQ
  | none => badQ
  | some y => if (acc ++ y.1).length ≤ 64 ∧ dup (acc ++ y.1) = false then (if [47, 62].isPrefixOf y.2 = true then (1, a, nm, (acc ++ y.1).map toB, tx, (l.length : Int) - (y.2.length : Int) + 2, true) else if [62].isPrefixOf y.2 = true then (1, a, nm, (acc ++ y.1).map toB, tx, (l.length : Int) - (y.2.length : Int) + 1, false) else badQ) else badQ
theorem drop_tw (l : Tx) (p : Nat) (q : Int → Bool) : l.drop (p + ((l.drop p).takeWhile q).length) = (l.drop p).dropWhile q := by
  rw [← List.drop_drop, drop_takeWhile]
theorem ropen_l0 {l : Tx} (hl : BL l) (hs : l.length ≤ 100000) (a : Int) (nm tx : ByteArray) : ∀ (d p : Nat) (acc : List (Tx × Tx)), p ≤ l.length → (l.drop p).length ≤ d → acc.length ≤ 64 → dup acc = false → (∀ x ∈ acc, BL x.1) →
    Ev (fun k => treenailref01_open.l0 k (strOfNums l) (p : Int) 1 a nm (acc.map toB) tx) (endQ l a nm tx acc (attrs d (l.drop p))) := by
  have hend : ∀ (p : Nat) (acc : List (Tx × Tx)), p ≤ l.length → acc.length ≤ 64 → dup acc = false → [32].isPrefixOf (l.drop p) = false → Ev (fun k => treenailref01_open.l0 k (strOfNums l) (p : Int) 1 a nm (acc.map toB) tx) (endQ l a nm tx acc (some ([], l.drop p))) := by
    intro p acc hp h64 hdup hsp
    refine Ev.step (fun k => by rw [treenailref01_open.l0]) ?_
    simp only [rat_f hl (p := [32]) (bl_dec rfl) (⟨#[32]⟩ : ByteArray) rfl p hp (by omega) (by simp), rat_f hl (p := [47, 62]) (bl_dec rfl) (⟨#[47, 62]⟩ : ByteArray) rfl p hp (by omega) (by simp), rat_f hl (p := [62]) (bl_dec rfl) (⟨#[62]⟩ : ByteArray) rfl p hp (by omega) (by simp), Option.bind_some, hsp, Bool.false_eq_true, if_false]
    simp only [endQ, List.append_nil, if_pos (show acc.length ≤ 64 ∧ dup acc = false from ⟨h64, hdup⟩)]
    have e : (l.length : Int) - ((l.drop p).length : Int) = (p : Int) := by simp; omega
    cases h1 : [47, 62].isPrefixOf (l.drop p) with
    | true =>
      simp only [if_true, e, wrapS (x := (p : Int) + 2) (by omega) (by omega)]
      exact Ev.now _
    | false =>
      simp only [Bool.false_eq_true, if_false]
      cases h2 : [62].isPrefixOf (l.drop p) with
      | true =>
        simp only [if_true, e, wrapS (x := (p : Int) + 1) (by omega) (by omega)]
        exact Ev.now _
      | false =>
        simp only [Bool.false_eq_true, if_false]
        exact Ev.now _
  intro d
  induction d with
  | zero =>
    intro p acc hp hd h64 hdup hb
    have h0 : l.drop p = [] := List.length_eq_zero_iff.1 (by omega)
    have := hend p acc hp h64 hdup (by rw [h0]; rfl)
    simpa [attrs] using this
  | succ d ih =>
    intro p acc hp hd h64 hdup hb
    simp only [attrs]
    cases hsp : [32].isPrefixOf (l.drop p) with
    | false =>
      simp only [Bool.false_eq_true, if_false]
      exact hend p acc hp h64 hdup hsp
    | true =>
      have hpl := prefix_len hsp
      simp only [List.length_cons, List.length_nil, List.length_drop] at hpl
      simp only [if_true, List.drop_drop]
      refine Ev.step (fun k => by rw [treenailref01_open.l0]) ?_
      simp only [rat_f hl (p := [32]) (bl_dec rfl) (⟨#[32]⟩ : ByteArray) rfl p hp (by omega) (by simp), Option.bind_some, hsp, if_true, wrapS (x := (p : Int) + 1) (by omega) (by omega)]
      rw [show ((p : Int) + 1) = ((p + 1 : Nat) : Int) by omega]
      have hu := hl.drop (p + 1)
      have hul : (l.drop (p + 1)).length = l.length - (p + 1) := by simp
      have htl := tw_len (l.drop (p + 1)) part
      have hnb := BL.takeWhile hu part
      generalize hn : (l.drop (p + 1)).takeWhile part = n at *
      refine Ev.bind (rname_f hl (by omega) (p + 1) (by omega)) ?_
      rw [hn]
      have hdw := drop_tw l (p + 1) part
      rw [hn] at hdw
      have hbad : ∀ x1 x2, Ev (fun k => treenailref01_open.j1 k (strOfNums l) true 1 a nm (acc.map toB) tx x1 x2) badQ := by
        intro x1 x2
        refine Ev.step (fun k => by rw [treenailref01_open.j1]) ?_
        simp only [if_true]
        exact Ev.now _
      unfold attr
      rw [hn]
      cases hin : isName n with
      | false =>
        simp only [nameR, hin, Bool.false_eq_true, if_false, show (-1 : Int) < 0 by omega, if_true, false_and]
        exact hbad _ _
      | true =>
        simp only [nameR, hin, if_true, if_neg (show ¬ (((p + 1 : Nat) : Int) + (n.length : Int) < 0) by omega), true_and]
        rw [show ((p + 1 : Nat) : Int) + (n.length : Int) = ((p + 1 + n.length : Nat) : Int) by omega]
        simp only [rat_f hl (p := [61, 34]) (bl_dec rfl) (⟨#[61, 34]⟩ : ByteArray) rfl (p + 1 + n.length) (by omega) (by omega) (by simp), Option.bind_some, hdw]
        cases heq : [61, 34].isPrefixOf ((l.drop (p + 1)).dropWhile part) with
        | false =>
          simp only [Bool.not_false, Bool.false_eq_true, if_false]
          exact hbad _ _
        | true =>
          simp only [Bool.not_true, if_true]
          have hel := prefix_len heq
          simp only [List.length_cons, List.length_nil] at hel
          refine Ev.step (fun k => by rw [treenailref01_open.j1]) ?_
          simp only [Bool.false_eq_true, if_false]
          rw [wrapS (x := ((p + 1 + n.length : Nat) : Int) + 2) (by omega) (by omega), show ((p + 1 + n.length : Nat) : Int) + 2 = ((p + 1 + n.length + 2 : Nat) : Int) by omega]
          have hd2 : l.drop (p + 1 + n.length + 2) = ((l.drop (p + 1)).dropWhile part).drop 2 := by rw [← List.drop_drop, hdw]
          refine Ev.bind (text_f hl (by omega) 34 (.inl rfl) (p + 1 + n.length + 2) (by omega)) ?_
          have hd3 := drop_tw l (p + 1 + n.length + 2) (· != 34)
          have htl3 := tw_len (l.drop (p + 1 + n.length + 2)) (· != 34)
          rw [hd2] at hd3 htl3 ⊢
          generalize ((l.drop (p + 1)).dropWhile part).drop 2 = b at *
          have hbl : b.length = l.length - (p + 1 + n.length + 2) := by rw [← hd2]; simp
          cases hm : mean (b.takeWhile (· != 34)) 0 with
          | none =>
            simp only [textR, show (-1 : Int) < 0 by omega, if_true]
            exact Ev.now _
          | some v =>
            simp only [textR, if_neg (show ¬ (((p + 1 + n.length + 2 : Nat) : Int) + ((b.takeWhile (· != 34)).length : Int) < 0) by omega), size_str, List.nil_append]
            cases hdd : b.dropWhile (· != 34) with
            | nil =>
              rw [hdd] at htl3
              simp only [List.length_nil] at htl3
              simp only [if_pos (show ((p + 1 + n.length + 2 : Nat) : Int) + ((b.takeWhile (· != 34)).length : Int) ≥ (l.length : Int) by omega)]
              exact Ev.now _
            | cons c t =>
              rw [hdd] at htl3 hd3
              simp only [List.length_cons] at htl3
              simp only [if_neg (show ¬ (((p + 1 + n.length + 2 : Nat) : Int) + ((b.takeWhile (· != 34)).length : Int) ≥ (l.length : Int)) by omega)]
              refine Ev.bind (has_f hnb acc hb (by omega)) ?_
              have hda := dup_app (n, v) acc
              simp only at hda
              have hd5 : l.drop (p + 1 + n.length + 2 + (b.takeWhile (· != 34)).length + 1) = t := by rw [← List.drop_drop, hd3]; rfl
              cases hh : acc.any (fun y => y.1 == n) with
              | true =>
                simp only [if_true]
                rw [hh, Bool.or_true] at hda
                cases hat : attrs d t with
                | none => exact Ev.now _
                | some y =>
                  simp only [Option.map_some, endQ]
                  rw [if_neg]
                  · exact Ev.now _
                  · intro h
                    have := dup_mono y.1 _ hda
                    rw [List.append_assoc, List.singleton_append] at this
                    rw [this] at h
                    simp at h
              | false =>
                simp only [Bool.false_eq_true, if_false, List.length_map]
                rw [hh, Bool.or_false, hdup] at hda
                by_cases h63 : acc.length ≥ 64
                · simp only [if_pos (show ((acc.length : Nat) : Int) ≥ 64 by omega)]
                  cases hat : attrs d t with
                  | none => exact Ev.now _
                  | some y =>
                    simp only [Option.map_some, endQ]
                    rw [if_neg]
                    · exact Ev.now _
                    · intro h
                      have := h.1
                      simp at this
                      omega
                · simp only [if_neg (show ¬ ((acc.length : Nat) : Int) ≥ 64 by omega), if_pos (show acc.length < 4398046511104 by omega)]
                  rw [wrapS (x := ((p + 1 + n.length + 2 : Nat) : Int) + ((b.takeWhile (· != 34)).length : Int) + 1) (by omega) (by omega), show ((p + 1 + n.length + 2 : Nat) : Int) + ((b.takeWhile (· != 34)).length : Int) + 1 = ((p + 1 + n.length + 2 + (b.takeWhile (· != 34)).length + 1 : Nat) : Int) by omega]
                  have := ih (p + 1 + n.length + 2 + (b.takeWhile (· != 34)).length + 1) (acc ++ [(n, v)]) (by omega) (by rw [hd5]; simp at hd; omega) (by simp; omega) hda (by
                    intro x hx
                    rcases List.mem_append.1 hx with hx | hx
                    · exact hb x hx
                    · rw [List.mem_singleton.1 hx]; exact hnb)
                  rw [hd5, List.map_append] at this
                  cases hat : attrs d t with
                  | none => rw [hat] at this; exact this
                  | some y =>
                    rw [hat] at this
                    simp only [endQ, List.append_assoc, List.singleton_append] at this
                    simp only [Option.map_some, endQ]
                    exact this
theorem ropen_f {l : Tx} (hl : BL l) (hs : l.length ≤ 100000) (p : Nat) (hp : p < l.length) : Ev (fun k => treenailref01_open.f k (strOfNums l) (p : Int)) (match opn (l.drop (p + 1)) with
    | none => badQ
    | some y => (1, (p : Int), strOfNums y.1, y.2.1.map toB, ⟨#[]⟩, (l.length : Int) - (y.2.2.2.length : Int), y.2.2.1)) := by
  have htl := tw_len (l.drop (p + 1)) part
  have hul : (l.drop (p + 1)).length = l.length - (p + 1) := by simp
  unfold treenailref01_open.f
  rw [wrapS (x := (p : Int) + 1) (by omega) (by omega), show ((p : Int) + 1) = ((p + 1 : Nat) : Int) by omega]
  refine Ev.bind (rname_f hl (by omega) (p + 1) (by omega)) ?_
  have hdw := drop_tw l (p + 1) part
  unfold opn
  generalize hn : (l.drop (p + 1)).takeWhile part = n at *
  cases hin : isName n with
  | false =>
    simp only [nameR, hin, Bool.false_eq_true, if_false, show (-1 : Int) < 0 by omega, if_true]
    exact Ev.now _
  | true =>
    simp only [nameR, hin, if_true, if_neg (show ¬ (((p + 1 : Nat) : Int) + (n.length : Int) < 0) by omega)]
    rw [show ((p + 1 : Nat) : Int) + (n.length : Int) = ((p + 1 + n.length : Nat) : Int) by omega]
    have := ropen_l0 hl hs (p : Int) (strOfNums n) ⟨#[]⟩ (l.drop (p + 1)).length (p + 1 + n.length) [] (by omega) (by rw [hdw]; omega) (by simp) rfl (by simp)
    rw [hdw] at this
    simp only [List.map_nil] at this
    cases hat : attrs (l.drop (p + 1)).length ((l.drop (p + 1)).dropWhile part) with
    | none => rw [hat] at this; exact this
    | some y =>
      rw [hat] at this
      have hab := attrs_bl _ _ _ (BL.dropWhile (hl.drop _) _) hat
      simp only [endQ, List.nil_append] at this
      simp only
      by_cases hg : y.1.length ≤ 64 ∧ dup y.1 = false
      · rw [if_pos hg] at this
        simp only [if_pos hg]
        by_cases h1 : [47, 62].isPrefixOf y.2 = true
        · have hl2 := prefix_len h1
          rw [if_pos h1] at this
          simp only [if_pos h1]
          simp only [List.length_cons, List.length_nil] at hl2
          rw [show (l.length : Int) - ((y.2.drop 2).length : Int) = (l.length : Int) - (y.2.length : Int) + 2 by simp; omega]
          exact this
        · rw [if_neg h1] at this
          simp only [if_neg h1]
          by_cases h2 : [62].isPrefixOf y.2 = true
          · have hl2 := prefix_len h2
            rw [if_pos h2] at this
            simp only [if_pos h2]
            simp only [List.length_cons, List.length_nil] at hl2
            rw [show (l.length : Int) - ((y.2.drop 1).length : Int) = (l.length : Int) - (y.2.length : Int) + 1 by simp; omega]
            exact this
          · rw [if_neg h2] at this
            simp only [if_neg h2]
            exact this
      · rw [if_neg hg] at this
        simp only [if_neg hg]
        exact this
end Go.Proofs.YtdlblokojlhmbaaDoor.MP
end
section
set_option linter.unusedVariables false
set_option linter.unusedSimpArgs false
namespace Go.Proofs.YtdlblokojlhmbaaDoor.MP
open Go.RowKit Go.Proofs.YtdlblokojlhmbaaDoorW.PrintWords Go.Proofs.YtdlblokojlhmbaaDoor.BL Go.Proofs.YtdlblokojlhmbaaDoor.Q
theorem attr_suffix {u : Tx} {x : (Tx × Tx) × Tx} (h : attr u = some x) : x.2 <:+ u := by
  unfold attr at h
  split at h
  · cases hm : mean (((u.dropWhile part).drop 2).takeWhile (· != 34)) 0 with
    | none => rw [hm] at h; simp at h
    | some v =>
      rw [hm] at h
      simp only at h
      cases hd : ((u.dropWhile part).drop 2).dropWhile (· != 34) with
      | nil => rw [hd] at h; simp at h
      | cons c t =>
        rw [hd] at h
        obtain rfl := Option.some.inj h
        have h1 : c :: t <:+ (u.dropWhile part).drop 2 := by rw [← hd]; exact List.dropWhile_suffix _
        exact (List.suffix_cons c t).trans (h1.trans ((List.drop_suffix _ _).trans (List.dropWhile_suffix _)))
  · simp at h
theorem attrs_suffix : ∀ (d : Nat) (u : Tx) (y : List (Tx × Tx) × Tx), attrs d u = some y → y.2 <:+ u
  | 0, u, y, h => by
    obtain rfl := Option.some.inj h
    exact List.suffix_refl _
  | d + 1, u, y, h => by
    simp only [attrs] at h
    split at h
    · cases hx : attr (u.drop 1) with
      | none => rw [hx] at h; simp at h
      | some x =>
        rw [hx] at h
        simp only [Option.map_eq_some_iff] at h
        obtain ⟨z, hz, rfl⟩ := h
        exact (attrs_suffix d x.2 z hz).trans ((attr_suffix hx).trans (List.drop_suffix _ _))
    · obtain rfl := Option.some.inj h
      exact List.suffix_refl _
theorem opn_suffix {u : Tx} {y : Tx × List (Tx × Tx) × Bool × Tx} (h : opn u = some y) : y.2.2.2 <:+ u := by
  unfold opn at h
  split at h
  · cases hx : attrs u.length (u.dropWhile part) with
    | none => rw [hx] at h; simp at h
    | some x =>
      rw [hx] at h
      have hs := (attrs_suffix _ _ _ hx).trans (List.dropWhile_suffix _)
      simp only at h
      split at h
      · split at h
        · obtain rfl := Option.some.inj h
          exact (List.drop_suffix _ _).trans hs
        split at h
        · obtain rfl := Option.some.inj h
          exact (List.drop_suffix _ _).trans hs
        · simp at h
      · simp at h
  · simp at h
def toR (m : M) : S34 := ⟨m.kind, m.at_, strOfNums m.name, m.atts.map toB, strOfNums m.text⟩
def readQ (acc : List M) : Sum Int (List M) → List S34 × Int
  | .inl e => ([], e)
  | .inr r => ((acc ++ r).map toR, -1)
theorem isP1 (u : Tx) : [60].isPrefixOf u = true ↔ u.headD 0 = 60 ∧ u ≠ [] := by
  cases u with
  | nil => simp [List.isPrefixOf]
  | cons c r => simp [List.isPrefixOf]; exact eq_comm
theorem rRead_l0 {l : Tx} (hl : BL l) (hs : l.length ≤ 20000) : ∀ (d p : Nat) (acc : List M), p ≤ l.length → (l.drop p).length ≤ d → acc.length + 2 * (l.drop p).length ≤ 50000 →
    Ev (fun k => treenailref01_Read.l0 k (strOfNums l) (p : Int) (acc.map toR) (-1)) (readQ acc (read d (l.drop p) (p : Int))) := by
  intro d
  induction d with
  | zero =>
    intro p acc hp hd ha
    have h0 : l.drop p = [] := List.length_eq_zero_iff.1 (by omega)
    have hpl : p = l.length := by simp at h0; omega
    refine Ev.step (fun k => by rw [treenailref01_Read.l0]) ?_
    simp only [size_str, if_neg (show ¬ (p : Int) < (l.length : Int) by omega), h0, read, readQ, List.append_nil]
    exact Ev.now _
  | succ d ih =>
    intro p acc hp hd ha
    refine Ev.step (fun k => by rw [treenailref01_Read.l0]) ?_
    simp only [size_str]
    by_cases hlt : p < l.length
    · simp only [if_pos (show (p : Int) < (l.length : Int) by omega), rat_f hl (p := [60, 47]) (bl_dec rfl) (⟨#[60, 47]⟩ : ByteArray) rfl p hp (by omega) (by simp), Option.bind_some]
      have hdr := getD_drop l p hlt
      have hdl : (l.drop p).length = l.length - p := by simp
      have hread : read (d + 1) (l.drop p) (p : Int) = (match first (l.drop p) with
        | none => .inl (p : Int)
        | some x => match read d x.2 ((p : Int) + (((l.drop (p + 1)).length : Int) + 1 - (x.2.length : Int))) with
          | .inl e => .inl e
          | .inr r => .inr (x.1.map (setAt (p : Int)) ++ r)) := by
        rw [hdr]
        rfl
      -- what is left behind a first mark
      have hgo : ∀ (q : Nat) (t : Tx) (ms : List M), first (l.drop p) = some (ms, t) → ms.length ≤ 2 → p < q → q ≤ l.length → l.drop q = t →
          Ev (fun k => treenailref01_Read.l0 k (strOfNums l) (q : Int) ((acc ++ ms.map (setAt (p : Int))).map toR) (-1)) (readQ acc (read (d + 1) (l.drop p) (p : Int))) := by
        intro q t ms hf hm hpq hq hdq
        have htl : t.length = l.length - q := by rw [← hdq]; simp
        have := ih q (acc ++ ms.map (setAt (p : Int))) hq (by rw [hdq]; omega) (by rw [hdq]; simp; omega)
        rw [hread, hf]
        simp only
        rw [show (p : Int) + (((l.drop (p + 1)).length : Int) + 1 - (t.length : Int)) = (q : Int) by simp; omega]
        rw [hdq] at this
        cases hz : read d t (q : Int) with
        | inl e => rw [hz] at this; exact this
        | inr z =>
          rw [hz] at this
          simp only [readQ, List.append_assoc] at this ⊢
          exact this
      have hbad : first (l.drop p) = none → readQ acc (read (d + 1) (l.drop p) (p : Int)) = ([], (p : Int)) := by
        intro hf
        rw [hread, hf]
        rfl
      have hfu := hgo
      unfold first at hgo hbad
      cases h1 : [60, 47].isPrefixOf (l.drop p) with
      | true =>
        have hpl := prefix_len h1
        simp only [List.length_cons, List.length_nil] at hpl
        simp only [h1, if_true, List.drop_drop] at hgo hbad
        simp only [if_true]
        rw [wrapS (x := (p : Int) + 2) (by omega) (by omega), show ((p : Int) + 2) = ((p + 2 : Nat) : Int) by omega]
        refine Ev.bind (rname_f hl (by omega) (p + 2) (by omega)) ?_
        have htl := tw_len (l.drop (p + 2)) part
        have hul : (l.drop (p + 2)).length = l.length - (p + 2) := by simp
        have hdw := drop_tw l (p + 2) part
        have hj : ∀ (b : Bool) (q : Nat) (n : Tx), q ≤ 100000 → Ev (fun k => if b = true then (if (acc.map toR).length < 1954687338268 then (if (wrap64 ((q : Int) + 1)) < 0 then (some (([] : List (S34)), (p : Int))) else (treenailref01_Read.l0 k (strOfNums l) (wrap64 ((q : Int) + 1)) ((acc.map toR) ++ [(⟨2, (p : Int), strOfNums n, ([] : List (S60)), (⟨#[]⟩ : ByteArray)⟩ : S34)]) (-1))) else (none)) else (if (-1 : Int) < 0 then (some (([] : List (S34)), (p : Int))) else (treenailref01_Read.l0 k (strOfNums l) (-1) (acc.map toR) (-1)))) (readQ acc (read (d + 1) (l.drop p) (p : Int))) → Ev (fun k => treenailref01_Read.j1 k (strOfNums l) (p : Int) (-1) b (acc.map toR) (-1) (q : Int) (strOfNums n)) (readQ acc (read (d + 1) (l.drop p) (p : Int))) := by
          intro b q n _ h
          refine Ev.step (fun k => by rw [treenailref01_Read.j1]) ?_
          exact h
        cases hn : isName ((l.drop (p + 2)).takeWhile part) with
        | false =>
          simp only [hn, Bool.false_eq_true, false_and, if_false, true_implies] at hbad
          simp only [nameR, hn, Bool.false_eq_true, if_false, if_neg (show ¬ ((-1 : Int) ≥ 0) by omega)]
          refine Ev.step (fun k => by rw [treenailref01_Read.j1]) ?_
          simp only [Bool.false_eq_true, if_false, show (-1 : Int) < 0 by omega, if_true, hbad]
          exact Ev.now _
        | true =>
          generalize hnn : (l.drop (p + 2)).takeWhile part = n at *
          simp only [nameR, hn, if_true, if_pos (show ((p + 2 : Nat) : Int) + (n.length : Int) ≥ 0 by omega)]
          rw [show ((p + 2 : Nat) : Int) + (n.length : Int) = ((p + 2 + n.length : Nat) : Int) by omega]
          simp only [rat_f hl (p := [62]) (bl_dec rfl) (⟨#[62]⟩ : ByteArray) rfl (p + 2 + n.length) (by omega) (by omega) (by simp), Option.bind_some, hdw]
          cases h3 : [62].isPrefixOf ((l.drop (p + 2)).dropWhile part) with
          | false =>
            simp only [hn, h3, Bool.false_eq_true, and_false, if_false, true_implies] at hbad
            refine hj false _ n (by omega) ?_
            simp only [Bool.false_eq_true, if_false, show (-1 : Int) < 0 by omega, if_true, hbad]
            exact Ev.now _
          | true =>
            have hl3 := prefix_len h3
            simp only [List.length_cons, List.length_nil] at hl3
            simp only [hn, h3, and_self, if_true] at hgo
            refine hj true _ n (by omega) ?_
            simp only [if_true, List.length_map, if_pos (show acc.length < 1954687338268 by omega), wrapS (x := ((p + 2 + n.length : Nat) : Int) + 1) (by omega) (by omega), if_neg (show ¬ (((p + 2 + n.length : Nat) : Int) + 1 < 0) by omega)]
            have := hgo (p + 2 + n.length + 1) _ _ rfl (by simp) (by omega) (by omega) (by rw [← List.drop_drop, hdw])
            rw [show ((p + 2 + n.length : Nat) : Int) + 1 = ((p + 2 + n.length + 1 : Nat) : Int) by omega]
            simpa [toR, setAt, str_empty] using this
      | false =>
        simp only [h1, Bool.false_eq_true, if_false] at hgo hbad
        simp only [Bool.false_eq_true, if_false, if_pos (show (0 : Int) ≤ (p : Int) by omega), bt_str hl, show ((p : Int)).toNat = p from rfl]
        have hp1 : [60].isPrefixOf (l.drop p) = true ↔ l.getD p 0 = 60 := by
          rw [isP1, hdr]
          simp
        by_cases h60 : l.getD p 0 = 60
        · simp only [if_pos h60]
          simp only [hp1.2 h60, if_true, List.drop_drop] at hgo hbad
          refine Ev.bind (ropen_f hl (by omega) p hlt) ?_
          cases ho : opn (l.drop (p + 1)) with
          | none =>
            simp only [ho, true_implies] at hbad
            simp only [badQ, if_neg (show ¬ ((-1 : Int) ≥ 0) by omega), show (-1 : Int) < 0 by omega, if_true, hbad]
            exact Ev.now _
          | some y =>
            obtain ⟨n, ats, both, t⟩ := y
            have hsf := opn_suffix ho
            simp only at hsf
            have hbl := opn_bl (hl.drop _) ho
            have htle : t.length ≤ l.length - (p + 1) := by have := hbl.2.2.2; simpa using this
            have hts : t = l.drop (l.length - t.length) := List.suffix_iff_eq_drop.1 (hsf.trans (List.drop_suffix _ _))
            simp only [ho] at hgo
            have := hgo (l.length - t.length) t _ rfl (by split <;> simp) (by omega) (by omega) hts.symm
            simp only [if_pos (show (l.length : Int) - (t.length : Int) ≥ 0 by omega), List.length_map, if_pos (show acc.length < 1954687338268 by omega), Option.bind_some, if_neg (show ¬ ((l.length : Int) - (t.length : Int) < 0) by omega)]
            rw [show (l.length : Int) - (t.length : Int) = ((l.length - t.length : Nat) : Int) by omega]
            cases both with
            | true =>
              simp only [if_true, List.length_append, List.length_map, List.length_cons, List.length_nil, if_pos (show acc.length + (0 + 1) < 1954687338268 by omega)]
              simpa [toR, setAt, str_empty] using this
            | false =>
              simp only [Bool.false_eq_true, if_false]
              simpa [toR, setAt, str_empty] using this
        · simp only [if_neg h60]
          have h61 : ¬ [60].isPrefixOf (l.drop p) = true := fun h => h60 (hp1.1 h)
          simp only [if_neg h61] at hgo hbad
          refine Ev.bind (text_f hl (by omega) 60 (.inr rfl) p hp) ?_
          simp only [List.length_map, if_pos (show acc.length < 1954687338268 by omega)]
          have htl := tw_len (l.drop p) (· != 60)
          have hdw := drop_tw l p (· != 60)
          have hpos : 0 < ((l.drop p).takeWhile (· != 60)).length := by
            rw [hdr, List.takeWhile_cons, if_pos (bne_iff_ne.2 h60)]
            simp
          cases hm : mean ((l.drop p).takeWhile (· != 60)) 0 with
          | none =>
            simp only [hm, true_implies] at hbad
            simp only [textR, show (-1 : Int) < 0 by omega, if_true, hbad]
            exact Ev.now _
          | some v =>
            simp only [hm] at hgo
            have := hgo (p + ((l.drop p).takeWhile (· != 60)).length) _ _ rfl (by simp) (by omega) (by omega) hdw
            simp only [textR, List.nil_append]
            simp only [show (p : Int) + (((l.drop p).takeWhile (· != 60)).length : Int) = ((p + ((l.drop p).takeWhile (· != 60)).length : Nat) : Int) by omega]
            simp only [if_neg (show ¬ (((p + ((l.drop p).takeWhile (· != 60)).length : Nat) : Int) < 0) by omega)]
            simpa [toR, setAt, str_empty] using this
    · have h0 : l.drop p = [] := List.drop_eq_nil_of_le (by omega)
      simp only [if_neg (show ¬ (p : Int) < (l.length : Int) by omega), h0, read, readQ, List.append_nil]
      exact Ev.now _
theorem rRead_f {l : Tx} (hl : BL l) (hs : l.length ≤ 20000) : Ev (fun k => treenailref01_Read.f k (strOfNums l)) (readQ [] (read l.length l 0)) := by
  have := rRead_l0 hl hs l.length 0 [] (by omega) (by simp) (by simp; omega)
  exact this
/-! ### the laws' own functions -/
def cv (x : S51) : S60 := ⟨x.f0, x.f1⟩
theorem ref_l0 (kd a : Int) (nm tx : ByteArray) (xs : List S51) (hx : xs.length ≤ 1000000000) : ∀ (d i : Nat) (acc : List S60), i + d = xs.length → acc.length = i →
    Ev (fun k => treenaillaw01_ref.l0 k xs (xs.length : Int) (i : Int) kd a nm acc tx) (kd, a, nm, acc ++ (xs.drop i).map cv, tx)
  | 0, i, acc, hi, ha => by
    refine Ev.step (fun k => by rw [treenaillaw01_ref.l0]) ?_
    simp only [if_neg (show ¬ (i : Int) < (xs.length : Int) by omega)]
    rw [List.drop_eq_nil_of_le (by omega), List.map_nil, List.append_nil]
    exact Ev.now _
  | d + 1, i, acc, hi, ha => by
    refine Ev.step (fun k => by rw [treenaillaw01_ref.l0]) ?_
    have hlt : i < xs.length := by omega
    have e : rd_T51 xs (i : Int) = xs[i] := by
      unfold rd_T51
      rw [show ((i : Int)).toNat = i from rfl, List.getD_eq_getElem?_getD, List.getElem?_eq_getElem hlt]
      rfl
    simp only [if_pos (show (i : Int) < (xs.length : Int) by omega), if_pos (show (0 : Int) ≤ (i : Int) by omega), if_pos (show acc.length < 4398046511104 by omega), wrapS (x := (i : Int) + 1) (by omega) (by omega), e]
    have := ref_l0 kd a nm tx xs hx d (i + 1) (acc ++ [cv xs[i]]) (by omega) (by simp; omega)
    rw [List.drop_eq_getElem_cons hlt, List.map_cons]
    rw [List.append_assoc, List.singleton_append] at this
    exact this
theorem ref_f (kd a : Int) (nm tx : ByteArray) (xs : List S51) (hx : xs.length ≤ 1000000000) : Ev (fun k => treenaillaw01_ref.f k kd a nm xs tx) (kd, a, nm, xs.map cv, tx) := by
  have := ref_l0 kd a nm tx xs hx xs.length 0 [] (by omega) rfl
  exact this
theorem same_l0 (xs : List S60) (hx : xs.length ≤ 1000000000) (k1 a1 k2 a2 : Int) (n1 t1 n2 t2 : ByteArray) : ∀ (d i : Nat), i + d = xs.length → Ev (fun k => treenaillaw01_same.l0 k (xs.length : Int) (i : Int) k1 a1 n1 xs t1 k2 a2 n2 xs t2) true
  | 0, i, hi => by
    refine Ev.step (fun k => by rw [treenaillaw01_same.l0]) ?_
    simp only [if_neg (show ¬ (i : Int) < (xs.length : Int) by omega)]
    exact Ev.now _
  | d + 1, i, hi => by
    refine Ev.step (fun k => by rw [treenaillaw01_same.l0]) ?_
    simp only [if_pos (show (i : Int) < (xs.length : Int) by omega), if_pos (show (0 : Int) ≤ (i : Int) by omega), beq_self_eq_true, Bool.not_true, Bool.or_self, Bool.false_eq_true, if_false, wrapS (x := (i : Int) + 1) (by omega) (by omega)]
    exact same_l0 xs hx k1 a1 k2 a2 n1 t1 n2 t2 d (i + 1) (by omega)
theorem same_f (kd a1 a2 : Int) (nm tx : ByteArray) (xs : List S60) (hx : xs.length ≤ 1000000000) (b : Bool) (h : b = true → a1 = a2) : Ev (fun k => treenaillaw01_same.f k kd a1 nm xs tx kd a2 nm xs tx b) true := by
  have hj : Ev (fun k => treenaillaw01_same.j0 k false kd a1 nm xs tx kd a2 nm xs tx) true := by
    refine Ev.step (fun k => by rw [treenaillaw01_same.j0]) ?_
    simp only [Bool.false_eq_true, if_false]
    exact same_l0 xs hx kd a1 kd a2 nm tx nm tx xs.length 0 (by omega)
  have e : ((xs.length : Int) != (xs.length : Int)) = false := by simp
  unfold treenaillaw01_same.f
  cases b with
  | true => simp only [if_true, h rfl, e]; rw [h rfl] at hj; exact hj
  | false => simp only [if_true, Bool.false_eq_true, if_false, e]; exact hj
theorem opens_f : Ev (fun k => treenaillaw01_opens.f k) true := by
  have hb : BL [60, 97, 32, 98, 61, 34, 49, 38, 108, 116, 59, 34, 47, 62] := bl_dec rfl
  have := read_f hb (by simp)
  have e : read ([60, 97, 32, 98, 61, 34, 49, 38, 108, 116, 59, 34, 47, 62] : Tx).length [60, 97, 32, 98, 61, 34, 49, 38, 108, 116, 59, 34, 47, 62] 0 = .inr [⟨1, 0, [97], [([98], [49, 60])], []⟩, ⟨2, 0, [97], [], []⟩] := by decide
  rw [e] at this
  unfold treenaillaw01_opens.f
  refine Ev.bind this ?_
  have e2 : ((⟨#[49, 60]⟩ : ByteArray)).toList = [49, 60] := by rw [Go.Lib.toList_data]
  have e3 : ((⟨#[97]⟩ : ByteArray)).toList = [97] := by rw [Go.Lib.toList_data]
  refine Ev.congr (f := fun _ => some true) ?_ (Ev.now _)
  intro k
  show (if ((0 : Int)) = 0 then _ else _) = _
  have e4 : (rd_T51 (rd_T38 (([⟨1, 0, [97], [([98], [49, 60])], []⟩, ⟨2, 0, [97], [], []⟩] : List M).map toM) 0).f3 0).f1.toList = ([49, 60] : List UInt8) := e2
  have e5 : (rd_T38 (([⟨1, 0, [97], [([98], [49, 60])], []⟩, ⟨2, 0, [97], [], []⟩] : List M).map toM) 1).f2.toList = ([97] : List UInt8) := e3
  simp only [readR, List.nil_append, e4, e5]
  rfl
end Go.Proofs.YtdlblokojlhmbaaDoor.MP
end
section
set_option linter.unusedVariables false
set_option linter.unusedSimpArgs false
namespace Go.Proofs.YtdlblokojlhmbaaDoor.MP
open Go.RowKit Go.Proofs.YtdlblokojlhmbaaDoorW.PrintWords Go.Proofs.YtdlblokojlhmbaaDoor.BL Go.Proofs.YtdlblokojlhmbaaDoor.Q
theorem ref_toM (m : M) (hl : m.atts.length ≤ 1000000000) : Ev (fun k => treenaillaw01_ref.f k m.kind m.at_ (strOfNums m.name) (m.atts.map toA) (strOfNums m.text)) (m.kind, m.at_, strOfNums m.name, m.atts.map toB, strOfNums m.text) := by
  have := ref_f m.kind m.at_ (strOfNums m.name) (strOfNums m.text) (m.atts.map toA) (by rw [List.length_map]; exact hl)
  rw [List.map_map] at this
  exact this
theorem rdR (ms : List M) (i : Nat) (hi : i < ms.length) : rd_T34 (ms.map toR) (i : Int) = toR ms[i] := by
  unfold rd_T34
  rw [show ((i : Int)).toNat = i from rfl, List.getD_eq_getElem?_getD, List.getElem?_map, List.getElem?_eq_getElem hi]
  rfl
/-! ### marks that are read -/
theorem first_atts {l : Tx} {y : List M × Tx} (h : first l = some y) : ∀ m ∈ y.1, m.atts.length ≤ 64 := by
  unfold first at h
  split at h
  · split at h
    · obtain rfl := Option.some.inj h
      intro m hm
      rw [List.mem_singleton.1 hm]
      simp
    · simp at h
  split at h
  · cases hx : opn (l.drop 1) with
    | none => rw [hx] at h; simp at h
    | some x =>
      rw [hx] at h
      obtain ⟨n, ats, both, t⟩ := x
      obtain rfl := Option.some.inj h
      have h64 : ats.length ≤ 64 := by
        unfold opn at hx
        split at hx
        · cases hz : attrs (l.drop 1).length ((l.drop 1).dropWhile part) with
          | none => rw [hz] at hx; simp at hx
          | some z =>
            rw [hz] at hx
            simp only at hx
            split at hx
            · rename_i hg
              split at hx
              · obtain ⟨rfl, rfl, _⟩ := Option.some.inj hx; exact hg.1
              split at hx
              · obtain ⟨rfl, rfl, _⟩ := Option.some.inj hx; exact hg.1
              · simp at hx
            · simp at hx
        · simp at hx
      intro m hm
      rcases List.mem_cons.1 hm with rfl | hm
      · exact h64
      · split at hm
        · rw [List.mem_singleton.1 hm]; simp
        · simp at hm
  · cases hm : mean (l.takeWhile (· != 60)) 0 with
    | none => rw [hm] at h; simp at h
    | some v =>
      rw [hm] at h
      obtain rfl := Option.some.inj h
      intro m hm
      rw [List.mem_singleton.1 hm]
      simp
theorem read_facts : ∀ (d : Nat) (l : Tx) (a : Int), BL l → (∀ e, read d l a = .inl e → a ≤ e) ∧ (∀ r, read d l a = .inr r → (∀ m ∈ r, m.atts.length ≤ 64) ∧ r.length ≤ 2 * l.length)
  | d, [], a, hl => by
    cases d <;> exact ⟨fun e h => by simp [read] at h, fun r h => by obtain rfl := Sum.inr.inj h; simp⟩
  | 0, c :: l, a, hl => by
    refine ⟨fun e h => ?_, fun r h => by simp [read] at h⟩
    obtain rfl := Sum.inl.inj h
    exact Int.le_refl _
  | d + 1, c :: l, a, hl => by
    simp only [read]
    cases hf : first (c :: l) with
    | none =>
      refine ⟨fun e h => ?_, fun r h => by simp at h⟩
      obtain rfl := Sum.inl.inj h
      exact Int.le_refl _
    | some y =>
      have hb := first_bl hl (by simp) hf
      have ih := read_facts d y.2 (a + ((l.length : Int) + 1 - (y.2.length : Int))) hb.1
      have hlen : (c :: l).length = l.length + 1 := by simp
      simp only
      cases hz : read d y.2 (a + ((l.length : Int) + 1 - (y.2.length : Int))) with
      | inl e =>
        refine ⟨fun e' h => ?_, fun r h => by simp at h⟩
        obtain rfl := Sum.inl.inj h
        have := ih.1 e hz
        omega
      | inr z =>
        refine ⟨fun e' h => by simp at h, fun r h => ?_⟩
        obtain rfl := Sum.inr.inj h
        have h2 := ih.2 z hz
        refine ⟨fun m hm => ?_, by simp; omega⟩
        rcases List.mem_append.1 hm with hm | hm
        · obtain ⟨m', hm', rfl⟩ := List.mem_map.1 hm
          exact first_atts hf m' hm'
        · exact h2.1 m hm
end Go.Proofs.YtdlblokojlhmbaaDoor.MP
end
set_option linter.unusedVariables false
set_option linter.unusedSimpArgs false
namespace Go.Proofs.YtdlblokojlhmbaaDoor.Pure
open Go.RowKit Go.Proofs.YtdlblokojlhmbaaDoor.Q Go.Proofs.YtdlblokojlhmbaaDoorW.PrintWords Go.Proofs.YtdlblokojlhmbaaDoorW.PrintLast Go.Proofs.YtdlblokojlhmbaaDoor.BL Go.Proofs.YtdlblokojlhmbaaDoor.MP

theorem reads_l0 (r : List M) (hr : ∀ m ∈ r, m.atts.length ≤ 64) (hl : r.length ≤ 1000000) : ∀ (d i : Nat), i + d = r.length → Ev (fun k => treenaillaw01_MarkReads.l0 k (r.map toM) (r.length : Int) (i : Int) (r.map toR) (-1)) true
  | 0, i, hi => by
    refine Ev.step (fun k => by rw [treenaillaw01_MarkReads.l0]) ?_
    simp only [if_neg (show ¬ (i : Int) < (r.length : Int) by omega)]
    exact Ev.bind opens_f (Ev.now _)
  | d + 1, i, hi => by
    refine Ev.step (fun k => by rw [treenaillaw01_MarkReads.l0]) ?_
    have hlt : i < r.length := by omega
    have h64 := hr _ (List.getElem_mem hlt)
    simp only [if_pos (show (i : Int) < (r.length : Int) by omega), if_pos (show (0 : Int) ≤ (i : Int) by omega), List.length_map, rd_map r i hlt, rdR r i hlt, wrapS (x := (i : Int) + 1) (by omega) (by omega)]
    refine Ev.bind (ref_toM r[i] (by omega)) ?_
    refine Ev.bind (same_f r[i].kind r[i].at_ r[i].at_ (strOfNums r[i].name) (strOfNums r[i].text) (r[i].atts.map toB) (by rw [List.length_map]; omega) true (fun _ => rfl)) ?_
    simp only [if_true]
    exact reads_l0 r hr hl d (i + 1) (by omega)
theorem MarkReads : ∀ (a0 : ByteArray), a0.size ≤ 140737488351232 → ∃ k, treenaillaw01_MarkReads.f k a0 = some true := by
  intro a0 hs
  have h : Ev (fun k => treenaillaw01_MarkReads.f k a0) true := by
    unfold treenaillaw01_MarkReads.f
    by_cases hg : (a0.size : Int) > 20000
    · simp only [read_long _ hg, Option.bind_some, if_pos hg, if_true, List.length_nil, show ((0 : Nat) : Int) = 0 from rfl]
      exact Ev.bind opens_f (Ev.now _)
    · obtain ⟨l, hl, rfl⟩ := str_cases a0
      rw [size_str] at hg
      have hf := read_facts l.length l 0 hl
      refine Ev.bind (read_f hl (by omega)) ?_
      simp only [size_str, if_neg hg]
      refine Ev.bind (rRead_f hl (by omega)) ?_
      cases hz : read l.length l 0 with
      | inl e =>
        have := hf.1 e hz
        simp only [readR, readQ, if_pos (show e ≥ 0 by omega), if_true, List.length_nil, show ((0 : Nat) : Int) = 0 from rfl]
        exact Ev.bind opens_f (Ev.now _)
      | inr r =>
        have h2 := hf.2 r hz
        simp only [readR, readQ, List.nil_append, if_neg (show ¬ ((-1 : Int) ≥ 0) by omega), if_true, List.length_map]
        have e : ((r.length : Int) != (r.length : Int)) = false := by simp
        simp only [e]
        refine Ev.step (fun k => by rw [treenaillaw01_MarkReads.j0]) ?_
        simp only [Bool.false_eq_true, if_false, List.length_map]
        exact reads_l0 r h2.1 (by omega) r.length 0 (by omega)
  exact h.rounds
end Go.Proofs.YtdlblokojlhmbaaDoor.Pure
