/- Strings as lists of whole numbers: what the printed functions say of strings, told of lists. -/
import Derived.Test.YtgfldjncpmdpdaaWMore
import Derived.Lib.Bytes
set_option linter.unusedVariables false
set_option linter.unusedSimpArgs false
namespace Go.Proofs.Ytgfldjncpmdpdaa.BL
open Go.RowKit Go.Proofs.YtgfldjncpmdpdaaW.PrintWords
/-- Each is a byte. -/
def BL (l : List Int) : Prop := ∀ x ∈ l, 0 ≤ x ∧ x < 256
theorem BL.nil : BL [] := by simp [BL]
theorem BL.cons {x : Int} {l : List Int} (h : 0 ≤ x ∧ x < 256) (hl : BL l) : BL (x :: l) := by
  intro y hy
  rcases List.mem_cons.1 hy with rfl | hy
  · exact h
  · exact hl y hy
theorem BL.append {l m : List Int} (h : BL l) (k : BL m) : BL (l ++ m) := by
  intro y hy
  rcases List.mem_append.1 hy with hy | hy
  · exact h y hy
  · exact k y hy
theorem BL.of_append {l m : List Int} (h : BL (l ++ m)) : BL l ∧ BL m := ⟨fun x hx => h x (by simp [hx]), fun x hx => h x (by simp [hx])⟩
theorem BL.take {l : List Int} (h : BL l) (n : Nat) : BL (l.take n) := fun x hx => h x (List.mem_of_mem_take hx)
theorem BL.drop {l : List Int} (h : BL l) (n : Nat) : BL (l.drop n) := fun x hx => h x (List.mem_of_mem_drop hx)
theorem BL.getD {l : List Int} (h : BL l) (n : Nat) : 0 ≤ l.getD n 0 ∧ l.getD n 0 < 256 := by
  rw [List.getD_eq_getElem?_getD]
  cases e : l[n]? with
  | none => simp
  | some x => exact h x (List.mem_of_getElem? e)
theorem bl_bytes (s : ByteArray) : BL (bytesOf s) := by
  intro x hx
  simp only [bytesOf, List.mem_map] at hx
  obtain ⟨b, _, rfl⟩ := hx
  have := b.toNat_lt
  omega
theorem str_bytes (s : ByteArray) : strOfNums (bytesOf s) = s := by
  apply ByteArray.ext
  apply Array.ext'
  rw [Go.strOfNums_data]
  simp only [bytesOf, List.map_map]
  conv => rhs; rw [← List.map_id s.data.toList]
  apply List.map_congr_left
  intro b _
  simp [Function.comp]
theorem bytes_str {l : List Int} (h : BL l) : bytesOf (strOfNums l) = l := by
  simp only [bytesOf, Go.strOfNums_data, List.map_map]
  conv => rhs; rw [← List.map_id l]
  apply List.map_congr_left
  intro x hx
  have := h x hx
  simp only [Function.comp, id]
  rw [UInt8.toNat_ofNat']
  omega
theorem bytes_inj {a b : ByteArray} (h : bytesOf a = bytesOf b) : a = b := by rw [← str_bytes a, h, str_bytes]
theorem size_bytes (s : ByteArray) : s.size = (bytesOf s).length := (bytesOf_length s).symm
theorem size_str (l : List Int) : (strOfNums l).size = l.length := Go.strOfNums_size l
theorem data_append (a b : ByteArray) : (a ++ b).data.toList = a.data.toList ++ b.data.toList := by simp
theorem bytes_append (a b : ByteArray) : bytesOf (a ++ b) = bytesOf a ++ bytesOf b := by simp only [bytesOf, data_append, List.map_append]
theorem str_append (l m : List Int) : strOfNums l ++ strOfNums m = strOfNums (l ++ m) := by
  apply ByteArray.ext
  apply Array.ext'
  rw [data_append, Go.strOfNums_data, Go.strOfNums_data, Go.strOfNums_data, List.map_append]
theorem str_empty : (⟨#[]⟩ : ByteArray) = strOfNums [] := rfl
theorem bt_bytes (s : ByteArray) (i : Int) : bt s i = (bytesOf s).getD i.toNat 0 := by
  unfold bt
  split
  · rename_i h
    have h' : i.toNat < (bytesOf s).length := by rw [bytesOf_length]; exact h
    rw [List.getD_eq_getElem?_getD, List.getElem?_eq_getElem h']
    simp only [bytesOf, List.getElem_map, Option.getD_some]
    rfl
  · rename_i h
    rw [List.getD_eq_getElem?_getD, List.getElem?_eq_none (by rw [bytesOf_length]; omega)]
    rfl
theorem bt_str {l : List Int} (h : BL l) (i : Int) : bt (strOfNums l) i = l.getD i.toNat 0 := by rw [bt_bytes, bytes_str h]
theorem bytes_extract (s : ByteArray) (i j : Nat) : bytesOf (s.extract i j) = ((bytesOf s).take j).drop i := by
  simp only [bytesOf, ByteArray.data_extract, Array.toList_extract, List.extract_eq_take_drop, List.map_take, List.map_drop]
  rw [List.drop_take]
theorem extract_str (l : List Int) (i j : Nat) : (strOfNums l).extract i j = strOfNums ((l.take j).drop i) := by
  apply ByteArray.ext
  apply Array.ext'
  rw [ByteArray.data_extract, Array.toList_extract, List.extract_eq_take_drop, Go.strOfNums_data, Go.strOfNums_data, ← List.drop_take, List.map_drop, List.map_take]
theorem drop_str (l : List Int) (i : Nat) : (strOfNums l).extract i (strOfNums l).size = strOfNums (l.drop i) := by
  rw [extract_str, size_str, List.take_length]
theorem take_str (l : List Int) (j : Nat) : (strOfNums l).extract 0 j = strOfNums (l.take j) := by
  rw [extract_str, List.drop_zero]
theorem toList_eq (a b : ByteArray) : a.toList = b.toList ↔ a = b := by
  constructor
  · intro h
    rw [Go.Lib.toList_data, Go.Lib.toList_data] at h
    exact ByteArray.ext (Array.ext' h)
  · rintro rfl
    rfl
theorem str_inj {l m : List Int} (hl : BL l) (hm : BL m) : strOfNums l = strOfNums m ↔ l = m := by
  constructor
  · intro h
    rw [← bytes_str hl, h, bytes_str hm]
  · rintro rfl
    rfl
theorem toList_str {l m : List Int} (hl : BL l) (hm : BL m) : (strOfNums l).toList = (strOfNums m).toList ↔ l = m := by rw [toList_eq, str_inj hl hm]
/-- A text is the list of its bytes. -/
theorem str_cases (s : ByteArray) : ∃ l, BL l ∧ s = strOfNums l := ⟨bytesOf s, bl_bytes s, (str_bytes s).symm⟩
theorem wrapS {x : Int} (h0 : -9223372036854775808 ≤ x) (h1 : x ≤ 9223372036854775807) : wrap64 x = x := by unfold wrap64; omega
theorem LeO.up {α : Type} {g : Nat → Option α} (hg : ∀ k, LeO (g k) (g (k + 1))) {k k' : Nat} (hk : k ≤ k') {r : α} (h : g k = some r) : g k' = some r := at_rounds hg hk h
end Go.Proofs.Ytgfldjncpmdpdaa.BL
