/- Plain facts on the unsigned numbers' functions: masks, shifts, products of 128 bits, and numbers modulo P and N. -/
import Derived.Test.YthiijdbiikljpaaKn
import Derived.Lib.Mul64
namespace Go.Proofs.Ythiijdbiikljpaa.KW
open Go
set_option linter.unusedVariables false

theorem andM_mask (j M m n : Nat) (hn : n = 2 ^ j - 1) (h : 2 ^ j ≤ M) : landM M m n = m % 2 ^ j := by
  subst hn
  rw [landM, Nat.and_two_pow_sub_one_eq_mod, Nat.mod_eq_of_lt]
  exact Nat.lt_of_lt_of_le (Nat.mod_lt _ (Nat.two_pow_pos j)) h
theorem and61 (m : Nat) : landM 18446744073709551616 m 2305843009213693951 = m % 2305843009213693952 := andM_mask 61 _ _ _ (by decide) (by decide)
theorem and32_64 (m : Nat) : landM 18446744073709551616 m 4294967295 = m % 4294967296 := andM_mask 32 _ _ _ (by decide) (by decide)
theorem and1_64 (m : Nat) : landM 18446744073709551616 m 1 = m % 2 := andM_mask 1 _ _ _ (by decide) (by decide)
theorem shr61 (m : Nat) : shrM 64 m 61 = m / 2305843009213693952 := by simp [shrM]
theorem shr32_64 (m : Nat) : shrM 64 m 32 = m / 4294967296 := by simp [shrM]
theorem shr1_64 (m : Nat) : shrM 64 m 1 = m / 2 := by simp [shrM]
theorem add64 {m n : Nat} (h : m + n < 18446744073709551616) : addM 18446744073709551616 m n = m + n := Nat.mod_eq_of_lt h
theorem mul64 {m n : Nat} (h : m * n < 18446744073709551616) : mulM 18446744073709551616 m n = m * n := Nat.mod_eq_of_lt h
theorem sub64 {m n : Nat} (h : n ≤ m) (hm : m < 18446744073709551616) : subM 18446744073709551616 m n = m - n := by
  unfold subM; omega
theorem addM_lt {M : Nat} (hM : 0 < M) (m n : Nat) : addM M m n < M := Nat.mod_lt _ hM
theorem mulM_lt {M : Nat} (hM : 0 < M) (m n : Nat) : mulM M m n < M := Nat.mod_lt _ hM
theorem shl3 {m : Nat} (h : m < 2305843009213693952) : shlM 18446744073709551616 64 m 3 = m * 8 := by
  unfold shlM; simp only [show min 3 64 = 3 from rfl]; omega

/-- The product's high half, by halves, as math/bits has it. -/
theorem hi_eq (x y : Nat) (hx : x < 18446744073709551616) (hy : y < 18446744073709551616) :
    addM 18446744073709551616 (addM 18446744073709551616 (mulM 18446744073709551616 (shrM 64 x 32) (shrM 64 y 32)) (shrM 64 (addM 18446744073709551616 (mulM 18446744073709551616 (shrM 64 x 32) (landM 18446744073709551616 y 4294967295)) (shrM 64 (mulM 18446744073709551616 (landM 18446744073709551616 x 4294967295) (landM 18446744073709551616 y 4294967295)) 32)) 32))
      (shrM 64 (addM 18446744073709551616 (landM 18446744073709551616 (addM 18446744073709551616 (mulM 18446744073709551616 (shrM 64 x 32) (landM 18446744073709551616 y 4294967295)) (shrM 64 (mulM 18446744073709551616 (landM 18446744073709551616 x 4294967295) (landM 18446744073709551616 y 4294967295)) 32)) 4294967295) (mulM 18446744073709551616 (landM 18446744073709551616 x 4294967295) (shrM 64 y 32))) 32)
      = x * y / 18446744073709551616 := by
  obtain ⟨h1, h2, h3, h4⟩ := Lib.mul64_hi x y hx hy
  simp only [and32_64, shr32_64]
  have ha := Lib.half_mul_le (a := x / 4294967296) (b := y / 4294967296) (by omega) (by omega)
  have hb := Lib.half_mul_le (a := x / 4294967296) (b := y % 4294967296) (by omega) (by omega)
  have hc := Lib.half_mul_le (a := x % 4294967296) (b := y / 4294967296) (by omega) (by omega)
  have hxy : x * y / 18446744073709551616 < 18446744073709551616 := by
    rw [Nat.div_lt_iff_lt_mul (by decide)]
    exact Nat.mul_lt_mul_of_lt_of_le hx (Nat.le_of_lt hy) (by decide)
  rw [← h4] at hxy ⊢
  rw [mul64 (by omega), mul64 (by omega), mul64 (by omega), mul64 (by omega), add64 h2, add64 h3, add64 (m := x / 4294967296 * (y / 4294967296)) (by omega), add64 (by omega)]

theorem or_low (a b i : Nat) (h : b < 2 ^ i) : a * 2 ^ i ||| b = a * 2 ^ i + b := by
  rw [Nat.mul_comm, Nat.two_pow_add_eq_or_of_lt h]

/-- The same by the reference's halves: both results. -/
theorem wide_eq (a b : Nat) (ha : a < 18446744073709551616) (hb : b < 18446744073709551616) (x y z mid : Nat)
    (hx : x = (a % 4294967296) * (b % 4294967296)) (hy : y = (a / 4294967296) * (b % 4294967296)) (hz : z = (a % 4294967296) * (b / 4294967296))
    (hmid : mid = x / 4294967296 + y % 4294967296 + z % 4294967296) :
    (a / 4294967296) * (b / 4294967296) + y / 4294967296 + z / 4294967296 + mid / 4294967296 = a * b / 18446744073709551616 ∧
    iorM 18446744073709551616 (shlM 18446744073709551616 64 mid 32) (x % 4294967296) = a * b % 18446744073709551616 ∧
    x ≤ 18446744065119617025 ∧ y ≤ 18446744065119617025 ∧ z ≤ 18446744065119617025 ∧ (a / 4294967296) * (b / 4294967296) ≤ 18446744065119617025 := by
  have e : a * b = (a / 4294967296) * (b / 4294967296) * (4294967296 * 4294967296) + ((a / 4294967296) * (b % 4294967296) + (a % 4294967296) * (b / 4294967296)) * 4294967296 + (a % 4294967296) * (b % 4294967296) := by
    rw [← Lib.split_mul, Nat.div_add_mod' a 4294967296, Nat.div_add_mod' b 4294967296]
  have h0 := Lib.half_mul_le (a := a / 4294967296) (b := b / 4294967296) (by omega) (by omega)
  have h1 := Lib.half_mul_le (a := a / 4294967296) (b := b % 4294967296) (by omega) (by omega)
  have h2 := Lib.half_mul_le (a := a % 4294967296) (b := b / 4294967296) (by omega) (by omega)
  have h3 := Lib.half_mul_le (a := a % 4294967296) (b := b % 4294967296) (by omega) (by omega)
  rw [← hx, ← hy, ← hz] at e
  rw [← hx] at h3
  rw [← hy] at h1
  rw [← hz] at h2
  generalize (a / 4294967296) * (b / 4294967296) = q at *
  refine ⟨by omega, ?_, h3, h1, h2, h0⟩
  have hs : shlM 18446744073709551616 64 mid 32 = (mid % 4294967296) * 4294967296 := by
    unfold shlM; simp only [show min 32 64 = 32 from rfl]; omega
  rw [hs, iorM, or_low (mid % 4294967296) (x % 4294967296) 32 (by omega)]
  omega

/-- A number of 64 bits modulo P, by its two parts. -/
theorem red_eq (x : Nat) (hx : x < 18446744073709551616) :
    (2305843009213693951 ≤ addM 18446744073709551616 (shrM 64 x 61) (landM 18446744073709551616 x 2305843009213693951) → subM 18446744073709551616 (addM 18446744073709551616 (shrM 64 x 61) (landM 18446744073709551616 x 2305843009213693951)) 2305843009213693951 = x % 2305843009213693951) ∧
    (¬ 2305843009213693951 ≤ addM 18446744073709551616 (shrM 64 x 61) (landM 18446744073709551616 x 2305843009213693951) → addM 18446744073709551616 (shrM 64 x 61) (landM 18446744073709551616 x 2305843009213693951) = x % 2305843009213693951) := by
  rw [and61, shr61, add64 (by omega)]
  refine ⟨fun h => ?_, fun h => ?_⟩
  · rw [sub64 h (by omega)]; omega
  · omega

theorem mod_lt_P (a : Nat) : a % 2305843009213693951 < 2305843009213693951 := Nat.mod_lt _ (by decide)
/-- A product of two numbers below P: the sum that is reduced. -/
theorem prod_fold (a b : Nat) (ha : a < 2305843009213693951) (hb : b < 2305843009213693951) :
    a * b / 18446744073709551616 < 288230376151711744 ∧
    (a * b / 18446744073709551616) * 8 + (a * b % 18446744073709551616) / 2305843009213693952 + (a * b % 18446744073709551616) % 2305843009213693952 < 18446744073709551616 ∧
    ((a * b / 18446744073709551616) * 8 + (a * b % 18446744073709551616) / 2305843009213693952 + (a * b % 18446744073709551616) % 2305843009213693952) % 2305843009213693951 = a * b % 2305843009213693951 := by
  have h : a * b ≤ 2305843009213693950 * 2305843009213693950 := Nat.mul_le_mul (by omega) (by omega)
  generalize a * b = p at *
  refine ⟨by omega, by omega, by omega⟩
theorem mulP_prog (a b : Nat) (ha : a < 2305843009213693951) (hb : b < 2305843009213693951) :
    addM 18446744073709551616 (addM 18446744073709551616 (shlM 18446744073709551616 64 (a * b / 18446744073709551616) 3) (shrM 64 (a * b % 18446744073709551616) 61)) (landM 18446744073709551616 (a * b % 18446744073709551616) 2305843009213693951) % 2305843009213693951 = a * b % 2305843009213693951 := by
  obtain ⟨h1, h2, h3⟩ := prod_fold a b ha hb
  rw [and61, shr61, shl3 (by omega), add64 (m := a * b / 18446744073709551616 * 8) (by omega), add64 (by omega)]
  exact h3
theorem mulP_ref (a b : Nat) (ha : a < 2305843009213693951) (hb : b < 2305843009213693951) :
    addM 18446744073709551616 (iorM 18446744073709551616 (shlM 18446744073709551616 64 (a * b / 18446744073709551616) 3) (shrM 64 (a * b % 18446744073709551616) 61)) (landM 18446744073709551616 (a * b % 18446744073709551616) 2305843009213693951) % 2305843009213693951 = a * b % 2305843009213693951 := by
  obtain ⟨h1, h2, h3⟩ := prod_fold a b ha hb
  have ho : iorM 18446744073709551616 (a * b / 18446744073709551616 * 8) ((a * b % 18446744073709551616) / 2305843009213693952) = a * b / 18446744073709551616 * 8 + (a * b % 18446744073709551616) / 2305843009213693952 := by
    rw [iorM, show a * b / 18446744073709551616 * 8 = a * b / 18446744073709551616 * 2 ^ 3 from rfl, or_low _ _ 3 (by omega)]
    omega
  rw [and61, shr61, shl3 (by omega), ho, add64 (by omega)]
  exact h3
end Go.Proofs.Ythiijdbiikljpaa.KW
