/- Six bytes as a number. -/
import Derived.Test.YtgfldjncpmdpdaaBytes
import Derived.Laws.BitsLemmas
set_option linter.unusedVariables false
set_option linter.unusedSimpArgs false
namespace Go.Proofs.Ytgfldjncpmdpdaa.J
open Go.RowKit Go.Proofs.Ytgfldjncpmdpdaa.BL Go.Proofs.YtgfldjncpmdpdaaW.PrintWords Go.Proofs.YtgfldjncpmdpdaaW.PrintLast Go.Proofs.YtgfldjncpmdpdaaW.PrintMore

/-- The number that bytes are, the lowest first. -/
def rdN : Nat → List Int → Int
  | 0, _ => 0
  | k + 1, l => l.headD 0 + 256 * rdN k (l.drop 1)
theorem headD_bl {l : List Int} (h : BL l) : 0 ≤ l.headD 0 ∧ l.headD 0 < 256 := by
  cases l with
  | nil => simp
  | cons a l => exact h a (by simp)
theorem rdN_range : ∀ k l, BL l → 0 ≤ rdN k l ∧ rdN k l < 256 ^ k
  | 0, l, _ => ⟨Int.le_refl _, by simp [rdN]⟩
  | k + 1, l, h => by
    have h1 := headD_bl h
    have h2 := rdN_range k (l.drop 1) (h.drop 1)
    simp only [rdN]
    rw [Int.pow_succ]
    omega
theorem rdN_snoc : ∀ k l, rdN (k + 1) l = rdN k l + 256 ^ k * l.getD k 0
  | 0, l => by cases l <;> simp [rdN]
  | k + 1, l => by
    rw [rdN, rdN_snoc k (l.drop 1), rdN]
    have e : (l.drop 1).getD k 0 = l.getD (k + 1) 0 := by simp [List.getD_eq_getElem?_getD, List.getElem?_drop, Nat.add_comm]
    rw [e, Int.pow_succ, Int.mul_add, Int.mul_assoc, Int.mul_left_comm, Int.add_assoc]
theorem wraps_i64 (n : Int) (h₀ : 0 ≤ n) (h₁ : n < 2 ^ 63) : IntKind.i64.wrap n = n := by rw [IntKind.wrap_i64]; omega
theorem or_comm64 (x y : Int) (hx0 : 0 ≤ x) (hx : x < 2 ^ 63) (hy0 : 0 ≤ y) (hy : y < 2 ^ 63) : Go.bits .or .i64 x y = Go.bits .or .i64 y x := by
  obtain ⟨a, rfl⟩ := Int.eq_ofNat_of_zero_le hx0
  obtain ⟨b, rfl⟩ := Int.eq_ofNat_of_zero_le hy0
  have ha : a < 2 ^ 63 := by exact_mod_cast hx
  have hb : b < 2 ^ 63 := by exact_mod_cast hy
  rw [(bits_nat .i64 63 (by decide) wraps_i64 a b ha hb).2, (bits_nat .i64 63 (by decide) wraps_i64 b a hb ha).2, Nat.or_comm]
theorem or_add (x y : Int) (i : Nat) (hx0 : 0 ≤ x) (hx : x < 256 ^ i) (hy0 : 0 ≤ y) (hy : y < 256) (hi : i < 6) : Go.bits .or .i64 x (shl .i64 y (8 * (i : Int))) = x + 256 ^ i * y := by
  have key : ∀ (j m : Nat), m = 2 ^ j → j ≤ 40 → x < (m : Int) → shl .i64 y (j : Int) = (m : Int) * y → Go.bits .or .i64 x (shl .i64 y (j : Int)) = x + (m : Int) * y := by
    intro j m hm hj hxm hs
    have h40 : m ≤ 2 ^ 40 := by rw [hm]; exact Nat.pow_le_pow_right (by decide) hj
    have h1 : (m : Int) * y < 2 ^ 63 := by
      have : (m : Int) * y ≤ 2 ^ 40 * 255 := Int.mul_le_mul (by omega) (by omega) hy0 (by omega)
      omega
    have h0 : 0 ≤ (m : Int) * y := Int.mul_nonneg (by omega) hy0
    have hz : (m : Int) * y % 2 ^ j = 0 := by
      have : ((2 : Int) ^ j) = (m : Int) := by rw [hm]; simp
      rw [this]
      exact Int.mul_emod_right _ _
    have h2 : x < 2 ^ 63 := by omega
    have e2 : ((2 : Int) ^ j) = (m : Int) := by rw [hm]; simp
    rw [hs, or_comm64 x _ hx0 h2 h0 h1, bits_join .i64 63 (by decide) wraps_i64 j ((m : Int) * y) x h0 hz h1 hx0 (by rw [e2]; exact hxm) h2, Int.add_comm]
  have sh : ∀ (j m : Nat), m = 2 ^ j → j ≤ 40 → shl .i64 y (j : Int) = (m : Int) * y := by
    intro j m hm hj
    have h40 : m ≤ 2 ^ 40 := by rw [hm]; exact Nat.pow_le_pow_right (by decide) hj
    have h1 : (m : Int) * y < 2 ^ 63 := by
      have : (m : Int) * y ≤ 2 ^ 40 * 255 := Int.mul_le_mul (by omega) (by omega) hy0 (by omega)
      omega
    have h0 : 0 ≤ (m : Int) * y := Int.mul_nonneg (by omega) hy0
    unfold shl
    have e1 : min (j : Int).toNat IntKind.i64.bits = j := by show min (j : Int).toNat 64 = j; omega
    have e2 : ((2 : Int) ^ j) = (m : Int) := by rw [hm]; simp
    rw [e1, e2, Int.mul_comm]
    exact wraps_i64 _ h0 h1
  have e : (8 * (i : Int)) = ((8 * i : Nat) : Int) := by omega
  have e2 : ((256 : Int) ^ i) = ((256 ^ i : Nat) : Int) := by simp
  have e3 : 256 ^ i = 2 ^ (8 * i) := by rw [Nat.pow_mul]
  rw [e, e2]
  rw [e2] at hx
  exact key (8 * i) (256 ^ i) e3 (by omega) hx (sh _ _ e3 (by omega))
end Go.Proofs.Ytgfldjncpmdpdaa.J
