/- Numbers modulo N: the reference's MulN, AddN, SubN. -/
import Derived.Test.YtlbbngcmhlknoaaModp
namespace Go.Proofs.Ytlbbngcmhlknoaa.Modn
open Go Go.RowKit Go.Proofs.Ytlbbngcmhlknoaa.KW
set_option linter.unusedVariables false
set_option linter.unusedSimpArgs false
set_option maxRecDepth 100000

theorem mod_lt_N (a : Nat) : a % 2305843009213693950 < 2305843009213693950 := Nat.mod_lt _ (by decide)
theorem mulN_eq (a b : Nat) (ha : a < 2305843009213693950) (hb : b < 2305843009213693950) :
    addM 18446744073709551616 (mulM 18446744073709551616 2 (iorM 18446744073709551616 (shlM 18446744073709551616 64 (a * b / 18446744073709551616) 3) (shrM 64 (a * b % 18446744073709551616) 61))) (landM 18446744073709551616 (a * b % 18446744073709551616) 2305843009213693951) % 2305843009213693950 = a * b % 2305843009213693950 := by
  have h : a * b ≤ 2305843009213693949 * 2305843009213693949 := Nat.mul_le_mul (by omega) (by omega)
  generalize a * b = p at *
  have h1 : p / 18446744073709551616 < 288230376151711744 := by omega
  have ho : iorM 18446744073709551616 (p / 18446744073709551616 * 8) ((p % 18446744073709551616) / 2305843009213693952) = p / 2305843009213693952 := by
    rw [iorM, show p / 18446744073709551616 * 8 = p / 18446744073709551616 * 2 ^ 3 from rfl, or_low _ _ 3 (by omega)]
    omega
  rw [and61, shr61, shl3 (by omega), ho, mul64 (by omega), add64 (by omega)]
  omega

theorem MulN_ok (a b : Nat) (ha : a < 18446744073709551616) (hb : b < 18446744073709551616) (w : World) :
    Ct Try.prog 14 #[.int .u64 (a : Int), .int .u64 (b : Int)] w (fun v w' => v = .int .u64 ((a * b % 2305843009213693950 : Nat) : Int) ∧ w = w') := by
  refine Ct.enter [(0, .int .u64 (a : Int)), (1, .int .u64 (b : Int))] Try.func14 rfl rfl rfl rfl ?_
  have h1 := mod_lt_N a
  have h2 := mod_lt_N b
  refine C.seq ?_
  refine C.region ?_
  refine W.assign rfl rfl ?_
  refine W.nil ?_
  refine At.thenCode ?_
  refine C.seq ?_
  refine C.region ?_
  refine W.move rfl rfl ?_
  refine W.remU (n := 2305843009213693950) rfl rfl (by omega) rfl ?_
  refine W.move rfl rfl ?_
  refine W.remU (n := 2305843009213693950) rfl rfl (by omega) rfl ?_
  refine W.call Try.call19 rfl (Modp.wide_ok _ _ (by first | omega | decide) (by first | omega | decide) _) rfl ?_
  rintro v w' ⟨rfl, rfl⟩
  refine W.move rfl rfl ?_
  refine W.extract rfl rfl rfl ?_
  refine W.extract rfl rfl rfl ?_
  refine W.assign rfl rfl ?_
  refine W.assign rfl rfl ?_
  refine W.nil ?_
  refine At.thenCode ?_
  refine C.seq ?_
  refine C.region ?_
  refine W.move rfl rfl ?_
  refine W.shlU (M := 18446744073709551616) (B := 64) (s := 3) rfl rfl rfl rfl rfl rfl ?_
  refine W.move rfl rfl ?_
  refine W.shrU (B := 64) (s := 61) rfl rfl rfl rfl ?_
  refine W.orU (M := 18446744073709551616) rfl rfl rfl rfl rfl ?_
  refine W.mulU (M := 18446744073709551616) (m := 2) rfl rfl rfl rfl rfl ?_
  refine W.move rfl rfl ?_
  refine W.andU (M := 18446744073709551616) (n := 2305843009213693951) rfl rfl rfl rfl rfl ?_
  refine W.addU (M := 18446744073709551616) rfl rfl rfl rfl rfl ?_
  refine W.remU (n := 2305843009213693950) rfl rfl (by omega) rfl ?_
  refine W.assign rfl rfl ?_
  refine W.nil ?_
  refine At.thenCode ?_
  refine C.ret ?_
  refine At.ret1 Try.results14 rfl ?_
  exact ⟨by rw [mulN_eq _ _ h1 h2, ← Nat.mul_mod], rfl⟩
theorem AddN_ok (a b : Nat) (ha : a < 18446744073709551616) (hb : b < 18446744073709551616) (w : World) :
    Ct Try.prog 10 #[.int .u64 (a : Int), .int .u64 (b : Int)] w (fun v w' => v = .int .u64 (((a + b) % 2305843009213693950 : Nat) : Int) ∧ w = w') := by
  refine Ct.enter [(0, .int .u64 (a : Int)), (1, .int .u64 (b : Int))] Try.func10 rfl rfl rfl rfl ?_
  have h1 := mod_lt_N a
  have h2 := mod_lt_N b
  refine C.seq ?_
  refine C.region ?_
  refine W.assign rfl rfl ?_
  refine W.nil ?_
  refine At.thenCode ?_
  refine C.seq ?_
  refine C.region ?_
  refine W.move rfl rfl ?_
  refine W.remU (n := 2305843009213693950) rfl rfl (by omega) rfl ?_
  refine W.move rfl rfl ?_
  refine W.remU (n := 2305843009213693950) rfl rfl (by omega) rfl ?_
  refine W.addU (M := 18446744073709551616) rfl rfl rfl rfl rfl ?_
  refine W.remU (n := 2305843009213693950) rfl rfl (by omega) rfl ?_
  refine W.assign rfl rfl ?_
  refine W.nil ?_
  refine At.thenCode ?_
  refine C.ret ?_
  refine At.ret1 Try.results10 rfl ?_
  exact ⟨by rw [add64 (by omega), ← Nat.add_mod], rfl⟩
theorem SubN_ok (a b : Nat) (ha : a < 18446744073709551616) (hb : b < 18446744073709551616) (w : World) :
    Ct Try.prog 12 #[.int .u64 (a : Int), .int .u64 (b : Int)] w (fun v w' => v = .int .u64 (((a % 2305843009213693950 + 2305843009213693950 - b % 2305843009213693950) % 2305843009213693950 : Nat) : Int) ∧ w = w') := by
  refine Ct.enter [(0, .int .u64 (a : Int)), (1, .int .u64 (b : Int))] Try.func12 rfl rfl rfl rfl ?_
  have h1 := mod_lt_N a
  have h2 := mod_lt_N b
  refine C.seq ?_
  refine C.region ?_
  refine W.assign rfl rfl ?_
  refine W.nil ?_
  refine At.thenCode ?_
  refine C.seq ?_
  refine C.region ?_
  refine W.move rfl rfl ?_
  refine W.remU (n := 2305843009213693950) rfl rfl (by omega) rfl ?_
  refine W.addU (M := 18446744073709551616) (n := 2305843009213693950) rfl rfl rfl rfl rfl ?_
  refine W.move rfl rfl ?_
  refine W.remU (n := 2305843009213693950) rfl rfl (by omega) rfl ?_
  refine W.subU (M := 18446744073709551616) rfl rfl rfl rfl rfl ?_
  refine W.remU (n := 2305843009213693950) rfl rfl (by omega) rfl ?_
  refine W.assign rfl rfl ?_
  refine W.nil ?_
  refine At.thenCode ?_
  refine C.ret ?_
  refine At.ret1 Try.results12 rfl ?_
  exact ⟨by rw [add64 (by omega), sub64 (by omega) (by omega)], rfl⟩
end Go.Proofs.Ytlbbngcmhlknoaa.Modn
