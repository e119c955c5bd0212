/- The walks of package modp and of the reference's functions modulo P: what each returns, for all arguments. -/
import Derived.Test.YtlbbngcmhlknoaaProg
import Derived.Test.YtlbbngcmhlknoaaNa
namespace Go.Proofs.Ytlbbngcmhlknoaa.Modp
open Go Go.RowKit Go.Proofs.Ytlbbngcmhlknoaa.KW
set_option linter.unusedVariables false
set_option linter.unusedSimpArgs false
set_option maxRecDepth 100000

def powP (a e : Nat) : Nat := a ^ e % 2305843009213693951
theorem powP_lt (a e : Nat) : powP a e < 2305843009213693951 := Nat.mod_lt _ (by decide)
theorem powP_zero (a : Nat) : powP a 0 = 1 := by unfold powP; simp
theorem powP_add (a e f : Nat) : powP a (e + f) = powP a e * powP a f % 2305843009213693951 := by
  unfold powP; rw [Nat.pow_add, ← Nat.mul_mod]
theorem powP_mod (a e : Nat) : powP (a % 2305843009213693951) e = powP a e := by
  unfold powP; rw [← Nat.pow_mod]
theorem powP_mul (a e f : Nat) : powP (powP a e) f = powP a (e * f) := by
  unfold powP; rw [← Nat.pow_mod, Nat.pow_mul]
theorem powP_one (a : Nat) : powP a 1 = a % 2305843009213693951 := by unfold powP; simp
theorem powP_two (a : Nat) : powP a 2 = a * a % 2305843009213693951 := by unfold powP; rw [Nat.pow_two]
/-- One round of the program's loop. -/
theorem pow_round (out a e t : Nat) (ht : out * powP a e % 2305843009213693951 = t) :
    (e % 2 = 1 → (out * a % 2305843009213693951) * powP (a * a % 2305843009213693951) (e / 2) % 2305843009213693951 = t) ∧
    (¬ e % 2 = 1 → out * powP (a * a % 2305843009213693951) (e / 2) % 2305843009213693951 = t) := by
  subst ht
  rw [← powP_two, powP_mul]
  refine ⟨fun h => ?_, fun h => ?_⟩
  · have he : e = 1 + 2 * (e / 2) := by omega
    conv => rhs; rw [he, powP_add, powP_one]
    rw [Nat.mod_mul_mod, Nat.mul_mod_mod]
    conv => rhs; rw [← Nat.mul_mod_mod, Nat.mod_mul_mod, Nat.mul_mod_mod]
    rw [Nat.mul_assoc]
  · have he : e = 2 * (e / 2) := by omega
    rw [← he]
/-- One round of the reference's loop: from the greatest bit on. -/
theorem pow_bit (a e i : Nat) :
    (e / 2 ^ i % 2 = 1 → (powP a (e / 2 ^ (i + 1)) * powP a (e / 2 ^ (i + 1)) % 2305843009213693951) * a % 2305843009213693951 = powP a (e / 2 ^ i)) ∧
    (¬ e / 2 ^ i % 2 = 1 → powP a (e / 2 ^ (i + 1)) * powP a (e / 2 ^ (i + 1)) % 2305843009213693951 = powP a (e / 2 ^ i)) := by
  rw [Nat.pow_succ, ← Nat.div_div_eq_div_mul]
  generalize e / 2 ^ i = q
  rw [← powP_add]
  refine ⟨fun h => ?_, fun h => ?_⟩
  · have hq : q = (q / 2 + q / 2) + 1 := by omega
    conv => rhs; rw [hq, powP_add, powP_one]
    rw [Nat.mul_mod_mod]
  · have hq : q = q / 2 + q / 2 := by omega
    rw [← hq]
attribute [irreducible] powP

theorem Mul64_ok (x y : Nat) (hx : x < 18446744073709551616) (hy : y < 18446744073709551616) (w : World) :
    Ct Try.prog 17 #[.int .u64 (x : Int), .int .u64 (y : Int)] w (fun v w' => v = .tuple #[.int .u64 ((x * y / 18446744073709551616 : Nat) : Int), .int .u64 ((x * y % 18446744073709551616 : Nat) : Int)] ∧ w = w') := by
  refine Ct.enter [(0, .int .u64 (x : Int)), (1, .int .u64 (y : Int))] Try.func17 rfl rfl rfl rfl ?_
  refine C.seq ?_
  refine C.region ?_
  refine W.assign rfl rfl ?_
  refine W.assign rfl rfl ?_
  refine W.nil ?_
  refine At.thenCode ?_
  refine C.seq ?_
  refine C.region ?_
  refine W.move rfl rfl ?_
  refine W.andU (M := 18446744073709551616) (n := 4294967295) rfl rfl rfl rfl rfl ?_
  refine W.assign rfl rfl ?_
  refine W.nil ?_
  refine At.thenCode ?_
  refine C.seq ?_
  refine C.region ?_
  refine W.move rfl rfl ?_
  refine W.shrU (B := 64) (s := 32) rfl rfl rfl rfl ?_
  refine W.assign rfl rfl ?_
  refine W.nil ?_
  refine At.thenCode ?_
  refine C.seq ?_
  refine C.region ?_
  refine W.move rfl rfl ?_
  refine W.andU (M := 18446744073709551616) (n := 4294967295) rfl rfl rfl rfl rfl ?_
  refine W.assign rfl rfl ?_
  refine W.nil ?_
  refine At.thenCode ?_
  refine C.seq ?_
  refine C.region ?_
  refine W.move rfl rfl ?_
  refine W.shrU (B := 64) (s := 32) rfl rfl rfl rfl ?_
  refine W.assign rfl rfl ?_
  refine W.nil ?_
  refine At.thenCode ?_
  refine C.seq ?_
  refine C.region ?_
  refine W.move rfl rfl ?_
  refine W.move rfl rfl ?_
  refine W.mulU (M := 18446744073709551616) rfl rfl rfl rfl rfl ?_
  refine W.assign rfl rfl ?_
  refine W.nil ?_
  refine At.thenCode ?_
  refine C.seq ?_
  refine C.region ?_
  refine W.move rfl rfl ?_
  refine W.move rfl rfl ?_
  refine W.mulU (M := 18446744073709551616) rfl rfl rfl rfl rfl ?_
  refine W.move rfl rfl ?_
  refine W.shrU (B := 64) (s := 32) rfl rfl rfl rfl ?_
  refine W.addU (M := 18446744073709551616) rfl rfl rfl rfl rfl ?_
  refine W.assign rfl rfl ?_
  refine W.nil ?_
  refine At.thenCode ?_
  refine C.seq ?_
  refine C.region ?_
  refine W.move rfl rfl ?_
  refine W.andU (M := 18446744073709551616) (n := 4294967295) rfl rfl rfl rfl rfl ?_
  refine W.assign rfl rfl ?_
  refine W.nil ?_
  refine At.thenCode ?_
  refine C.seq ?_
  refine C.region ?_
  refine W.move rfl rfl ?_
  refine W.shrU (B := 64) (s := 32) rfl rfl rfl rfl ?_
  refine W.assign rfl rfl ?_
  refine W.nil ?_
  refine At.thenCode ?_
  refine C.seq ?_
  refine C.region ?_
  refine W.move rfl rfl ?_
  refine W.move rfl rfl ?_
  refine W.move rfl rfl ?_
  refine W.mulU (M := 18446744073709551616) rfl rfl rfl rfl rfl ?_
  refine W.addU (M := 18446744073709551616) rfl rfl rfl rfl rfl ?_
  refine W.assign rfl rfl ?_
  refine W.nil ?_
  refine At.thenCode ?_
  refine C.seq ?_
  refine C.region ?_
  refine W.move rfl rfl ?_
  refine W.move rfl rfl ?_
  refine W.mulU (M := 18446744073709551616) rfl rfl rfl rfl rfl ?_
  refine W.move rfl rfl ?_
  refine W.addU (M := 18446744073709551616) rfl rfl rfl rfl rfl ?_
  refine W.move rfl rfl ?_
  refine W.shrU (B := 64) (s := 32) rfl rfl rfl rfl ?_
  refine W.addU (M := 18446744073709551616) rfl rfl rfl rfl rfl ?_
  refine W.assign rfl rfl ?_
  refine W.nil ?_
  refine At.thenCode ?_
  refine C.seq ?_
  refine C.region ?_
  refine W.move rfl rfl ?_
  refine W.move rfl rfl ?_
  refine W.mulU (M := 18446744073709551616) rfl rfl rfl rfl rfl ?_
  refine W.assign rfl rfl ?_
  refine W.nil ?_
  refine At.thenCode ?_
  refine C.ret ?_
  refine At.ret2 Try.results17 rfl rfl ?_
  rw [hi_eq x y hx hy]
  exact ⟨rfl, rfl⟩







theorem wide_ok (a b : Nat) (ha : a < 18446744073709551616) (hb : b < 18446744073709551616) (w : World) :
    Ct Try.prog 19 #[.int .u64 (a : Int), .int .u64 (b : Int)] w (fun v w' => v = .tuple #[.int .u64 ((a * b / 18446744073709551616 : Nat) : Int), .int .u64 ((a * b % 18446744073709551616 : Nat) : Int)] ∧ w = w') := by
  refine Ct.enter [(0, .int .u64 (a : Int)), (1, .int .u64 (b : Int))] Try.func19 rfl rfl rfl rfl ?_
  obtain ⟨x, hx⟩ : ∃ x, x = (a % 4294967296) * (b % 4294967296) := ⟨_, rfl⟩
  obtain ⟨y, hy⟩ : ∃ y, y = (a / 4294967296) * (b % 4294967296) := ⟨_, rfl⟩
  obtain ⟨z, hz⟩ : ∃ z, z = (a % 4294967296) * (b / 4294967296) := ⟨_, rfl⟩
  obtain ⟨g1, g2, g3, g4, g5, g6⟩ := wide_eq a b ha hb x y z _ hx hy hz rfl
  refine C.seq ?_
  refine C.region ?_
  refine W.assign rfl rfl ?_
  refine W.assign rfl rfl ?_
  refine W.nil ?_
  refine At.thenCode ?_
  refine C.seq ?_
  refine C.region ?_
  refine W.assign rfl rfl ?_
  refine W.eqv (v' := .int .u64 ((4294967295 : Nat) : Int)) rfl ?_
  refine W.nil ?_
  refine At.thenCode ?_
  refine C.seq ?_
  refine C.region ?_
  refine W.move rfl rfl ?_
  refine W.move rfl rfl ?_
  refine W.andU (M := 18446744073709551616) rfl rfl rfl rfl rfl ?_
  refine W.move rfl rfl ?_
  refine W.move rfl rfl ?_
  refine W.andU (M := 18446744073709551616) rfl rfl rfl rfl rfl ?_
  refine W.mulU (M := 18446744073709551616) rfl rfl rfl rfl rfl ?_
  rw [and32_64, and32_64, mul64 (by omega), ← hx]
  refine W.assign rfl rfl ?_
  refine W.nil ?_
  refine At.thenCode ?_
  refine C.seq ?_
  refine C.region ?_
  refine W.move rfl rfl ?_
  refine W.shrU (B := 64) (s := 32) rfl rfl rfl rfl ?_
  refine W.move rfl rfl ?_
  refine W.move rfl rfl ?_
  refine W.andU (M := 18446744073709551616) rfl rfl rfl rfl rfl ?_
  refine W.mulU (M := 18446744073709551616) rfl rfl rfl rfl rfl ?_
  rw [and32_64, shr32_64, mul64 (by omega), ← hy]
  refine W.assign rfl rfl ?_
  refine W.nil ?_
  refine At.thenCode ?_
  refine C.seq ?_
  refine C.region ?_
  refine W.move rfl rfl ?_
  refine W.move rfl rfl ?_
  refine W.andU (M := 18446744073709551616) rfl rfl rfl rfl rfl ?_
  refine W.move rfl rfl ?_
  refine W.shrU (B := 64) (s := 32) rfl rfl rfl rfl ?_
  refine W.mulU (M := 18446744073709551616) rfl rfl rfl rfl rfl ?_
  rw [and32_64, shr32_64, mul64 (by omega), ← hz]
  refine W.assign rfl rfl ?_
  refine W.nil ?_
  refine At.thenCode ?_
  refine C.seq ?_
  refine C.region ?_
  refine W.move rfl rfl ?_
  refine W.shrU (B := 64) (s := 32) rfl rfl rfl rfl ?_
  refine W.move rfl rfl ?_
  refine W.move rfl rfl ?_
  refine W.andU (M := 18446744073709551616) rfl rfl rfl rfl rfl ?_
  refine W.addU (M := 18446744073709551616) rfl rfl rfl rfl rfl ?_
  refine W.move rfl rfl ?_
  refine W.move rfl rfl ?_
  refine W.andU (M := 18446744073709551616) rfl rfl rfl rfl rfl ?_
  refine W.addU (M := 18446744073709551616) rfl rfl rfl rfl rfl ?_
  rw [and32_64, and32_64, shr32_64, add64 (m := x / 4294967296) (by omega), add64 (by omega)]
  refine W.assign rfl rfl ?_
  refine W.nil ?_
  refine At.thenCode ?_
  refine C.seq ?_
  refine C.region ?_
  refine W.move rfl rfl ?_
  refine W.shrU (B := 64) (s := 32) rfl rfl rfl rfl ?_
  refine W.move rfl rfl ?_
  refine W.shrU (B := 64) (s := 32) rfl rfl rfl rfl ?_
  refine W.mulU (M := 18446744073709551616) rfl rfl rfl rfl rfl ?_
  refine W.move rfl rfl ?_
  refine W.shrU (B := 64) (s := 32) rfl rfl rfl rfl ?_
  refine W.addU (M := 18446744073709551616) rfl rfl rfl rfl rfl ?_
  refine W.move rfl rfl ?_
  refine W.shrU (B := 64) (s := 32) rfl rfl rfl rfl ?_
  refine W.addU (M := 18446744073709551616) rfl rfl rfl rfl rfl ?_
  refine W.move rfl rfl ?_
  refine W.shrU (B := 64) (s := 32) rfl rfl rfl rfl ?_
  refine W.addU (M := 18446744073709551616) rfl rfl rfl rfl rfl ?_
  rw [shr32_64, shr32_64, shr32_64, shr32_64, shr32_64, mul64 (by omega), add64 (m := a / 4294967296 * (b / 4294967296)) (by omega), add64 (m := a / 4294967296 * (b / 4294967296) + y / 4294967296) (by omega), add64 (by omega), g1]
  refine W.move rfl rfl ?_
  refine W.shlU (M := 18446744073709551616) (B := 64) (s := 32) rfl rfl rfl rfl rfl rfl ?_
  refine W.move rfl rfl ?_
  refine W.move rfl rfl ?_
  refine W.andU (M := 18446744073709551616) rfl rfl rfl rfl rfl ?_
  refine W.orU (M := 18446744073709551616) rfl rfl rfl rfl rfl ?_
  rw [and32_64, g2]
  refine W.assign rfl rfl ?_
  refine W.assign rfl rfl ?_
  refine W.nil ?_
  refine At.thenCode ?_
  refine C.ret ?_
  refine At.ret2 Try.results19 rfl rfl ?_
  exact ⟨rfl, rfl⟩






end Go.Proofs.Ytlbbngcmhlknoaa.Modp
