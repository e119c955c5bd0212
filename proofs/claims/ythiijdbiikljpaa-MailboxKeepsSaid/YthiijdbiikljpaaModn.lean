/- Numbers modulo N: the reference's MulN, AddN, SubN. -/
import Derived.Test.YthiijdbiikljpaaModp
namespace Go.Proofs.Ythiijdbiikljpaa.Modn
open Go Go.RowKit Go.Proofs.Ythiijdbiikljpaa.KW
set_option linter.unusedVariables false
set_option linter.unusedSimpArgs false
set_option maxRecDepth 100000

theorem mod_lt_N (a : Nat) : a % 2305843009213693950 < 2305843009213693950 := Nat.mod_lt _ (by decide)
theorem mulN_eq (a b : Nat) (ha : a < 2305843009213693950) (hb : b < 2305843009213693950) :
    addM 18446744073709551616 (mulM 18446744073709551616 2 (iorM 18446744073709551616 (shlM 18446744073709551616 64 (a * b / 18446744073709551616) 3) (shrM 64 (a * b % 18446744073709551616) 61))) (landM 18446744073709551616 (a * b % 18446744073709551616) 2305843009213693951) % 2305843009213693950 = a * b % 2305843009213693950 := by
  have h : a * b ≤ 2305843009213693949 * 2305843009213693949 := Nat.mul_le_mul (by omega) (by omega)
  generalize a * b = p at *
  have h1 : p / 18446744073709551616 < 288230376151711744 := by omega
  have ho : iorM 18446744073709551616 (p / 18446744073709551616 * 8) ((p % 18446744073709551616) / 2305843009213693952) = p / 2305843009213693952 := by
    rw [iorM, show p / 18446744073709551616 * 8 = p / 18446744073709551616 * 2 ^ 3 from rfl, or_low _ _ 3 (by omega)]
    omega
  rw [and61, shr61, shl3 (by omega), ho, mul64 (by omega), add64 (by omega)]
  omega

end Go.Proofs.Ythiijdbiikljpaa.Modn
