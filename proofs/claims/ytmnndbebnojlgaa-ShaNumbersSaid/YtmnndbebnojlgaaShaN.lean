/- The reference's numbers of chapter 2: primes, and what lies behind the point of their roots. -/
import Derived.Test.YtmnndbebnojlgaaRSha
import Derived.Test.YtmnndbebnojlgaaNa
namespace Go.Proofs.Ytmnndbebnojlgaa.ShaN
open Go Go.RowKit Go.Proofs.Ytmnndbebnojlgaa.KW Go.Proofs.Ytmnndbebnojlgaa.Words Go.Proofs.Ytmnndbebnojlgaa.Sha
set_option linter.unusedVariables false
set_option linter.unusedSimpArgs false
set_option maxRecDepth 100000
theorem wide_ok (a b : Nat) (ha : a < 18446744073709551616) (hb : b < 18446744073709551616) (w : World) :
    Ct Try.prog 51 #[.int .u64 (a : Int), .int .u64 (b : Int)] w (fun v w' => v = .tuple #[.int .u64 ((a * b / 18446744073709551616 : Nat) : Int), .int .u64 ((a * b % 18446744073709551616 : Nat) : Int)] ∧ w = w') := by
  refine Ct.enter [(0, .int .u64 (a : Int)), (1, .int .u64 (b : Int))] Try.func51 rfl rfl rfl rfl ?_
  obtain ⟨x, hx⟩ : ∃ x, x = (a % 4294967296) * (b % 4294967296) := ⟨_, rfl⟩
  obtain ⟨y, hy⟩ : ∃ y, y = (a / 4294967296) * (b % 4294967296) := ⟨_, rfl⟩
  obtain ⟨z, hz⟩ : ∃ z, z = (a % 4294967296) * (b / 4294967296) := ⟨_, rfl⟩
  obtain ⟨g1, g2, g3, g4, g5, g6⟩ := wide_eq a b ha hb x y z _ hx hy hz rfl
  refine C.seq ?_
  refine C.region ?_
  refine W.assign rfl rfl ?_
  refine W.assign rfl rfl ?_
  refine W.nil ?_
  refine At.thenCode ?_
  refine C.seq ?_
  refine C.region ?_
  refine W.assign rfl rfl ?_
  refine W.eqv (v' := .int .u64 ((4294967295 : Nat) : Int)) rfl ?_
  refine W.nil ?_
  refine At.thenCode ?_
  refine C.seq ?_
  refine C.region ?_
  refine W.move rfl rfl ?_
  refine W.move rfl rfl ?_
  refine W.andU (M := 18446744073709551616) rfl rfl rfl rfl rfl ?_
  refine W.move rfl rfl ?_
  refine W.move rfl rfl ?_
  refine W.andU (M := 18446744073709551616) rfl rfl rfl rfl rfl ?_
  refine W.mulU (M := 18446744073709551616) rfl rfl rfl rfl rfl ?_
  rw [and32_64, and32_64, mul64 (by omega), ← hx]
  refine W.assign rfl rfl ?_
  refine W.nil ?_
  refine At.thenCode ?_
  refine C.seq ?_
  refine C.region ?_
  refine W.move rfl rfl ?_
  refine W.shrU (B := 64) (s := 32) rfl rfl rfl rfl ?_
  refine W.move rfl rfl ?_
  refine W.move rfl rfl ?_
  refine W.andU (M := 18446744073709551616) rfl rfl rfl rfl rfl ?_
  refine W.mulU (M := 18446744073709551616) rfl rfl rfl rfl rfl ?_
  rw [and32_64, shr32_64, mul64 (by omega), ← hy]
  refine W.assign rfl rfl ?_
  refine W.nil ?_
  refine At.thenCode ?_
  refine C.seq ?_
  refine C.region ?_
  refine W.move rfl rfl ?_
  refine W.move rfl rfl ?_
  refine W.andU (M := 18446744073709551616) rfl rfl rfl rfl rfl ?_
  refine W.move rfl rfl ?_
  refine W.shrU (B := 64) (s := 32) rfl rfl rfl rfl ?_
  refine W.mulU (M := 18446744073709551616) rfl rfl rfl rfl rfl ?_
  rw [and32_64, shr32_64, mul64 (by omega), ← hz]
  refine W.assign rfl rfl ?_
  refine W.nil ?_
  refine At.thenCode ?_
  refine C.seq ?_
  refine C.region ?_
  refine W.move rfl rfl ?_
  refine W.shrU (B := 64) (s := 32) rfl rfl rfl rfl ?_
  refine W.move rfl rfl ?_
  refine W.move rfl rfl ?_
  refine W.andU (M := 18446744073709551616) rfl rfl rfl rfl rfl ?_
  refine W.addU (M := 18446744073709551616) rfl rfl rfl rfl rfl ?_
  refine W.move rfl rfl ?_
  refine W.move rfl rfl ?_
  refine W.andU (M := 18446744073709551616) rfl rfl rfl rfl rfl ?_
  refine W.addU (M := 18446744073709551616) rfl rfl rfl rfl rfl ?_
  rw [and32_64, and32_64, shr32_64, add64 (m := x / 4294967296) (by omega), add64 (by omega)]
  refine W.assign rfl rfl ?_
  refine W.nil ?_
  refine At.thenCode ?_
  refine C.seq ?_
  refine C.region ?_
  refine W.move rfl rfl ?_
  refine W.shrU (B := 64) (s := 32) rfl rfl rfl rfl ?_
  refine W.move rfl rfl ?_
  refine W.shrU (B := 64) (s := 32) rfl rfl rfl rfl ?_
  refine W.mulU (M := 18446744073709551616) rfl rfl rfl rfl rfl ?_
  refine W.move rfl rfl ?_
  refine W.shrU (B := 64) (s := 32) rfl rfl rfl rfl ?_
  refine W.addU (M := 18446744073709551616) rfl rfl rfl rfl rfl ?_
  refine W.move rfl rfl ?_
  refine W.shrU (B := 64) (s := 32) rfl rfl rfl rfl ?_
  refine W.addU (M := 18446744073709551616) rfl rfl rfl rfl rfl ?_
  refine W.move rfl rfl ?_
  refine W.shrU (B := 64) (s := 32) rfl rfl rfl rfl ?_
  refine W.addU (M := 18446744073709551616) rfl rfl rfl rfl rfl ?_
  rw [shr32_64, shr32_64, shr32_64, shr32_64, shr32_64, mul64 (by omega), add64 (m := a / 4294967296 * (b / 4294967296)) (by omega), add64 (m := a / 4294967296 * (b / 4294967296) + y / 4294967296) (by omega), add64 (by omega), g1]
  refine W.move rfl rfl ?_
  refine W.shlU (M := 18446744073709551616) (B := 64) (s := 32) rfl rfl rfl rfl rfl rfl ?_
  refine W.move rfl rfl ?_
  refine W.move rfl rfl ?_
  refine W.andU (M := 18446744073709551616) rfl rfl rfl rfl rfl ?_
  refine W.orU (M := 18446744073709551616) rfl rfl rfl rfl rfl ?_
  rw [and32_64, g2]
  refine W.assign rfl rfl ?_
  refine W.assign rfl rfl ?_
  refine W.nil ?_
  refine At.thenCode ?_
  refine C.ret ?_
  refine At.ret2 Try.results51 rfl rfl ?_
  exact ⟨rfl, rfl⟩

def squareB (z p : Nat) : Bool := decide (z * z ≤ p * 18446744073709551616)
def cubeB (z p : Nat) : Bool := decide (z * z * z ≤ p * 79228162514264337593543950336)
theorem square_ok (z p : Nat) (hz : z < 68719476736) (hp : p < 4294967296) (w : World) :
    Ct Try.prog 47 #[.int .u64 (z : Int), .int .u64 (p : Int)] w (fun v w' => v = .bool (squareB z p) ∧ w = w') := by
  refine Ct.enter [(0, .int .u64 (z : Int)), (1, .int .u64 (p : Int))] Try.func47 rfl rfl rfl rfl ?_
  obtain ⟨q, hq⟩ : ∃ q, q = z * z := ⟨_, rfl⟩
  obtain ⟨B, hB⟩ : ∃ B, B = squareB z p := ⟨_, rfl⟩
  have hB' : B = decide (q ≤ p * 18446744073709551616) := by rw [hB, hq]; rfl
  rw [← hB]
  refine C.seq ?_
  refine C.region ?_
  refine W.assign rfl rfl ?_
  refine W.nil ?_
  refine At.thenCode ?_
  refine C.seq ?_
  refine C.region ?_
  refine W.move rfl rfl ?_
  refine W.move rfl rfl ?_
  refine W.call Try.call51 rfl (ShaN.wide_ok z z (by omega) (by omega) _) rfl ?_
  rintro v10 w10 ⟨rfl, rfl⟩
  rw [← hq]
  refine W.move rfl rfl ?_
  refine W.extract rfl rfl rfl ?_
  refine W.extract rfl rfl rfl ?_
  refine W.assign rfl rfl ?_
  refine W.assign rfl rfl ?_
  refine W.nil ?_
  refine At.thenCode ?_
  refine C.seq ?_
  refine C.region ?_
  refine W.move rfl rfl ?_
  refine W.move rfl rfl ?_
  refine W.lssU rfl rfl rfl ?_
  refine W.move rfl rfl ?_
  first | refine W.splitD (fun g16 => ?_) (fun g16 => ?_) | refine W.splitB (fun g16 => ?_) (fun g16 => ?_)
  · refine W.skips rfl rfl rfl rfl rfl rfl ?_
    refine W.skips rfl rfl rfl rfl rfl rfl ?_
    refine W.skips rfl rfl rfl rfl rfl rfl ?_
    refine W.skips rfl rfl rfl rfl rfl rfl ?_
    refine W.skipsU rfl rfl rfl rfl rfl rfl ?_
    refine W.skipsU rfl rfl rfl rfl rfl rfl ?_
    refine W.skips rfl rfl rfl rfl rfl rfl ?_
    refine W.pickT rfl rfl rfl ?_
    refine W.assign rfl rfl ?_
    refine W.nil ?_
    refine At.thenCode ?_
    refine C.ret ?_
    refine At.ret1 Try.results47 rfl ?_
    refine ⟨?_, rfl⟩
    rw [hB']
    first
    | (symm; congr 1; rw [decide_eq_true_iff]; omega)
    | (congr 1; rw [decide_eq_decide]; omega)
    | (symm; congr 1; rw [decide_eq_false_iff_not]; omega)
  · refine W.wants rfl rfl rfl rfl ?_
    refine W.move rfl rfl ?_
    refine W.wants rfl rfl rfl rfl ?_
    refine W.move rfl rfl ?_
    refine W.wants rfl rfl rfl rfl ?_
    refine W.eqlU rfl rfl rfl ?_
    refine W.wants rfl rfl rfl rfl ?_
    refine W.move rfl rfl ?_
    first | refine W.splitD (fun g20 => ?_) (fun g20 => ?_) | refine W.splitB (fun g20 => ?_) (fun g20 => ?_)
    · refine W.wants rfl rfl rfl rfl ?_
      refine W.move rfl rfl ?_
      refine W.wants rfl rfl rfl rfl ?_
      refine W.eqlU (n := 0) rfl rfl rfl ?_
      refine W.wants rfl rfl rfl rfl ?_
      refine W.pickT rfl rfl rfl ?_
      refine W.pickF rfl rfl rfl ?_
      refine W.assign rfl rfl ?_
      refine W.nil ?_
      refine At.thenCode ?_
      refine C.ret ?_
      refine At.ret1 Try.results47 rfl ?_
      refine ⟨?_, rfl⟩
      rw [hB']
      first
      | (symm; congr 1; rw [decide_eq_true_iff]; omega)
      | (congr 1; rw [decide_eq_decide]; omega)
      | (symm; congr 1; rw [decide_eq_false_iff_not]; omega)
    · refine W.skips rfl rfl rfl rfl rfl rfl ?_
      refine W.skips rfl rfl rfl rfl rfl rfl ?_
      refine W.wants rfl rfl rfl rfl ?_
      refine W.pickF rfl rfl rfl ?_
      refine W.pickF rfl rfl rfl ?_
      refine W.assign rfl rfl ?_
      refine W.nil ?_
      refine At.thenCode ?_
      refine C.ret ?_
      refine At.ret1 Try.results47 rfl ?_
      refine ⟨?_, rfl⟩
      rw [hB']
      first
      | (symm; congr 1; rw [decide_eq_true_iff]; omega)
      | (congr 1; rw [decide_eq_decide]; omega)
      | (symm; congr 1; rw [decide_eq_false_iff_not]; omega)
theorem cube_ok (z p : Nat) (hz : z < 68719476736) (hp : p < 4294967296) (w : World) :
    Ct Try.prog 46 #[.int .u64 (z : Int), .int .u64 (p : Int)] w (fun v w' => v = .bool (cubeB z p) ∧ w = w') := by
  refine Ct.enter [(0, .int .u64 (z : Int)), (1, .int .u64 (p : Int))] Try.func46 rfl rfl rfl rfl ?_
  obtain ⟨q, hq⟩ : ∃ q, q = z * z := ⟨_, rfl⟩
  have hqb : q < 4722366482869645213696 := by rw [hq]; exact Nat.mul_lt_mul'' hz hz
  obtain ⟨h, hh⟩ : ∃ h, h = q / 18446744073709551616 := ⟨_, rfl⟩
  obtain ⟨lo, hlo⟩ : ∃ lo, lo = q % 18446744073709551616 := ⟨_, rfl⟩
  have hqd : q = 18446744073709551616 * h + lo := by rw [hh, hlo]; exact (Nat.div_add_mod _ _).symm
  have hh8 : h < 256 := by omega
  have hlo64 : lo < 18446744073709551616 := by omega
  obtain ⟨r, hr⟩ : ∃ r, r = lo * z := ⟨_, rfl⟩
  have hrb : r < 18446744073709551616 * 68719476736 := by rw [hr]; exact Nat.mul_lt_mul'' hlo64 hz
  obtain ⟨s, hs⟩ : ∃ s, s = h * z := ⟨_, rfl⟩
  have hsb : s < 256 * 68719476736 := by rw [hs]; exact Nat.mul_lt_mul'' hh8 hz
  have hc : z * z * z = 18446744073709551616 * s + r := by rw [← hq, hqd, hs, hr, Nat.add_mul, Nat.mul_assoc]
  obtain ⟨B, hB⟩ : ∃ B, B = cubeB z p := ⟨_, rfl⟩
  have hB' : B = decide (18446744073709551616 * s + r ≤ p * 79228162514264337593543950336) := by rw [hB, ← hc]; rfl
  have hshl : shlM 18446744073709551616 64 p 32 = p * 4294967296 := by
    unfold shlM
    rw [show min 32 64 = 32 from rfl, show (2 : Nat) ^ 32 = 4294967296 from rfl, Nat.mod_eq_of_lt (by omega)]
  rw [← hB]
  refine C.seq ?_
  refine C.region ?_
  refine W.assign rfl rfl ?_
  refine W.nil ?_
  refine At.thenCode ?_
  refine C.seq ?_
  refine C.region ?_
  refine W.move rfl rfl ?_
  refine W.move rfl rfl ?_
  refine W.call Try.call51 rfl (ShaN.wide_ok z z (by omega) (by omega) _) rfl ?_
  rintro v13 w13 ⟨rfl, rfl⟩
  rw [← hq, ← hh, ← hlo]
  refine W.move rfl rfl ?_
  refine W.extract rfl rfl rfl ?_
  refine W.extract rfl rfl rfl ?_
  refine W.assign rfl rfl ?_
  refine W.assign rfl rfl ?_
  refine W.nil ?_
  refine At.thenCode ?_
  refine C.seq ?_
  refine C.region ?_
  refine W.move rfl rfl ?_
  refine W.move rfl rfl ?_
  refine W.call Try.call51 rfl (ShaN.wide_ok lo z (by omega) (by omega) _) rfl ?_
  rintro v19 w19 ⟨rfl, rfl⟩
  rw [← hr]
  refine W.move rfl rfl ?_
  refine W.extract rfl rfl rfl ?_
  refine W.extract rfl rfl rfl ?_
  refine W.assign rfl rfl ?_
  refine W.assign rfl rfl ?_
  refine W.nil ?_
  refine At.thenCode ?_
  refine C.seq ?_
  refine C.region ?_
  refine W.move rfl rfl ?_
  refine W.move rfl rfl ?_
  refine W.mulU (M := 18446744073709551616) rfl rfl rfl rfl rfl ?_
  rw [mul64 (by rw [← hs]; omega), ← hs]
  refine W.move rfl rfl ?_
  refine W.addU (M := 18446744073709551616) rfl rfl rfl rfl rfl ?_
  rw [add64 (by omega)]
  refine W.assign rfl rfl ?_
  refine W.nil ?_
  refine At.thenCode ?_
  refine C.seq ?_
  refine C.region ?_
  refine W.move rfl rfl ?_
  refine W.move rfl rfl ?_
  refine W.shlU (M := 18446744073709551616) (B := 64) (s := 32) rfl rfl rfl rfl rfl rfl ?_
  rw [hshl]
  refine W.lssU rfl rfl rfl ?_
  refine W.move rfl rfl ?_
  first | refine W.splitD (fun g31 => ?_) (fun g31 => ?_) | refine W.splitB (fun g31 => ?_) (fun g31 => ?_)
  · refine W.skips rfl rfl rfl rfl rfl rfl ?_
    refine W.skips rfl rfl rfl rfl rfl rfl ?_
    refine W.skips rfl rfl rfl rfl rfl rfl ?_
    refine W.skips rfl rfl rfl rfl rfl rfl ?_
    refine W.skips rfl rfl rfl rfl rfl rfl ?_
    refine W.skipsU rfl rfl rfl rfl rfl rfl ?_
    refine W.skipsU rfl rfl rfl rfl rfl rfl ?_
    refine W.skips rfl rfl rfl rfl rfl rfl ?_
    refine W.pickT rfl rfl rfl ?_
    refine W.assign rfl rfl ?_
    refine W.nil ?_
    refine At.thenCode ?_
    refine C.ret ?_
    refine At.ret1 Try.results46 rfl ?_
    refine ⟨?_, rfl⟩
    rw [hB']
    first
    | (symm; congr 1; rw [decide_eq_true_iff]; omega)
    | (congr 1; rw [decide_eq_decide]; omega)
    | (symm; congr 1; rw [decide_eq_false_iff_not]; omega)
  · refine W.wants rfl rfl rfl rfl ?_
    refine W.move rfl rfl ?_
    refine W.wants rfl rfl rfl rfl ?_
    refine W.move rfl rfl ?_
    refine W.wants rfl rfl rfl rfl ?_
    refine W.shlU (M := 18446744073709551616) (B := 64) (s := 32) rfl rfl rfl rfl rfl rfl ?_
    rw [hshl]
    refine W.wants rfl rfl rfl rfl ?_
    refine W.eqlU rfl rfl rfl ?_
    refine W.wants rfl rfl rfl rfl ?_
    refine W.move rfl rfl ?_
    first | refine W.splitD (fun g36 => ?_) (fun g36 => ?_) | refine W.splitB (fun g36 => ?_) (fun g36 => ?_)
    · refine W.wants rfl rfl rfl rfl ?_
      refine W.move rfl rfl ?_
      refine W.wants rfl rfl rfl rfl ?_
      refine W.eqlU (n := 0) rfl rfl rfl ?_
      refine W.wants rfl rfl rfl rfl ?_
      refine W.pickT rfl rfl rfl ?_
      refine W.pickF rfl rfl rfl ?_
      refine W.assign rfl rfl ?_
      refine W.nil ?_
      refine At.thenCode ?_
      refine C.ret ?_
      refine At.ret1 Try.results46 rfl ?_
      refine ⟨?_, rfl⟩
      rw [hB']
      first
      | (symm; congr 1; rw [decide_eq_true_iff]; omega)
      | (congr 1; rw [decide_eq_decide]; omega)
      | (symm; congr 1; rw [decide_eq_false_iff_not]; omega)
    · refine W.skips rfl rfl rfl rfl rfl rfl ?_
      refine W.skips rfl rfl rfl rfl rfl rfl ?_
      refine W.wants rfl rfl rfl rfl ?_
      refine W.pickF rfl rfl rfl ?_
      refine W.pickF rfl rfl rfl ?_
      refine W.assign rfl rfl ?_
      refine W.nil ?_
      refine At.thenCode ?_
      refine C.ret ?_
      refine At.ret1 Try.results46 rfl ?_
      refine ⟨?_, rfl⟩
      rw [hB']
      first
      | (symm; congr 1; rw [decide_eq_true_iff]; omega)
      | (congr 1; rw [decide_eq_decide]; omega)
      | (symm; congr 1; rw [decide_eq_false_iff_not]; omega)

theorem iV {k : IntKind} {a b : Int} (h : a = b) : Value.int k a = .int k b := by rw [h]
def tstB (c : Bool) (z p : Nat) : Bool := match c with
  | true => cubeB z p
  | false => squareB z p
def bitsV (c : Bool) (p : Nat) : Nat → Nat → Nat
  | 0, z => z
  | n + 1, z => bitsV c p n (if tstB c (z ||| 2 ^ n) p = true then z ||| 2 ^ n else z)
def behV (c : Bool) (p : Nat) : Nat := bitsV c p 36 0 % 4294967296
theorem behindC_ok (p : Nat) (hp : p < 4294967296) (w : World) :
    Ct Try.prog 39 #[.int .u64 (p : Int), .bool true] w (fun v w' => v = .int .u32 ((behV true p : Nat) : Int) ∧ w = w') := by
  refine Ct.enter [(0, .int .u64 (p : Int)), (1, .bool true)] Try.func39 rfl rfl rfl rfl ?_
  obtain ⟨S, hS⟩ : ∃ S, S = bitsV true p 36 0 := ⟨_, rfl⟩
  have hR : behV true p = S % 4294967296 := by rw [hS]; rfl
  rw [hR]
  refine C.seq ?_
  refine C.region ?_
  refine W.assign rfl rfl ?_
  refine W.nil ?_
  refine At.thenCode ?_
  refine C.seq ?_
  refine C.region ?_
  refine W.assign rfl rfl ?_
  refine W.nil ?_
  refine At.thenCode ?_
  refine C.seq ?_
  refine C.seq ?_
  refine C.region ?_
  refine W.assign rfl rfl ?_
  refine W.nil ?_
  refine At.thenCode ?_
  refine C.block ?_
  refine C.loop (X := Nat × Nat) (fun x_ => [(0, .int .u64 (p : Int)), (1, .bool true), (5, .int .u64 (x_.2 : Int)), (6, .int .i64 ((x_.1 : Int) - 1))]) (fun x_ w1 => w = w1 ∧ x_.1 ≤ 36 ∧ x_.2 < 68719476736 ∧ bitsV true p x_.1 x_.2 = S) (fun x_ => x_.1) (36, 0) (Sub.cons (rfl) (Sub.cons (rfl) (Sub.cons (rfl) (Sub.cons (rfl) (Sub.nil))))) ?start1 ?_
  case start1 =>
    show w = _ ∧ (36) ≤ 36 ∧ (0) < 68719476736 ∧ bitsV true p (36) (0) = S
    exact ⟨rfl, by omega, by omega, hS.symm⟩
  rintro ⟨n, z⟩ w1 hI_
  replace hI_ : w = w1 ∧ n ≤ 36 ∧ z < 68719476736 ∧ bitsV true p n z = S := hI_
  obtain ⟨rfl, hn, hz, hv⟩ := hI_
  refine C.weaken (l' := [(0, .int .u64 (p : Int)), (1, .bool true), (5, .int .u64 (z : Int)), (6, .int .i64 ((n : Int) - 1))]) (Sub.cons (rfl) (Sub.cons (rfl) (Sub.cons (rfl) (Sub.cons (rfl) (Sub.nil))))) ?_
  refine C.seq ?_
  refine C.seq ?_
  refine C.region ?_
  refine W.move rfl rfl ?_
  refine W.geqI rfl rfl rfl ?_
  refine W.nil ?_
  refine At.thenCode ?_
  first | refine C.condD rfl (fun c9 => ?_) (fun c9 => ?_) | refine C.cond rfl (fun c9 => ?_) (fun c9 => ?_)
  · obtain ⟨m, hm⟩ : ∃ m, n = m + 1 := ⟨n - 1, by omega⟩
    obtain ⟨y, hy⟩ : ∃ y, y = z ||| 2 ^ m := ⟨_, rfl⟩
    have h2m : 2 ^ m < 68719476736 := Nat.pow_lt_pow_right (n := 36) (by decide) (by omega)
    have hyb : y < 68719476736 := by rw [hy]; exact Nat.or_lt_two_pow (n := 36) hz h2m
    have hshl : shlM 18446744073709551616 64 1 m = 2 ^ m := by
      unfold shlM
      rw [Nat.one_mul, Nat.min_eq_left (by omega), Nat.mod_eq_of_lt (by omega)]
    have hior : iorM 18446744073709551616 z (2 ^ m) = y := by unfold iorM; rw [← hy, Nat.mod_eq_of_lt (by omega)]
    have hst : bitsV true p m (if cubeB y p = true then y else z) = S := by rw [hm] at hv; rw [hy]; exact hv
    refine C.skip ?_
    refine At.thenCode ?_
    refine C.seq ?_
    refine C.block ?_
    refine C.seq ?_
    refine C.region ?_
    refine W.move rfl rfl ?_
    refine W.move rfl rfl ?_
    refine W.convIN (M := 18446744073709551616) rfl Try.underlying3 Try.underlying56 rfl rfl (by omega) rfl ?_
    rw [show ((n : Int) - 1).toNat = m from by omega]
    refine W.shlU (M := 18446744073709551616) (B := 64) (m := 1) rfl rfl rfl rfl rfl rfl ?_
    rw [hshl]
    refine W.orU (M := 18446744073709551616) rfl rfl rfl rfl rfl ?_
    rw [hior]
    refine W.assign rfl rfl ?_
    refine W.nil ?_
    refine At.thenCode ?_
    refine C.seq ?_
    refine C.region ?_
    refine W.move rfl rfl ?_
    refine W.move rfl rfl ?_
    refine W.eqv (v' := .bool true) (rfl) ?_
    refine W.wants rfl rfl rfl rfl ?_
    refine W.move rfl rfl ?_
    refine W.wants rfl rfl rfl rfl ?_
    refine W.move rfl rfl ?_
    refine W.wants rfl rfl rfl rfl ?_
    refine W.call Try.call46 rfl (ShaN.cube_ok y p hyb hp _) rfl ?_
    rintro v21 w21 ⟨rfl, rfl⟩
    refine W.pickT rfl rfl rfl ?_
    refine W.move rfl rfl ?_
    first | refine W.splitD (fun g23 => ?_) (fun g23 => ?_) | refine W.splitB (fun g23 => ?_) (fun g23 => ?_)
    · refine W.skips rfl rfl rfl rfl rfl rfl ?_
      refine W.skips rfl rfl rfl rfl rfl rfl ?_
      refine W.skips rfl rfl rfl rfl rfl rfl ?_
      refine W.skipsU rfl rfl rfl rfl rfl rfl ?_
      refine W.skipsU rfl rfl rfl rfl rfl rfl ?_
      refine W.skipsU rfl rfl rfl rfl rfl rfl ?_
      refine W.skips rfl rfl rfl rfl rfl rfl ?_
      refine W.pickT rfl rfl rfl ?_
      refine W.nil ?_
      refine At.thenCode ?_
      refine C.condT rfl ?_
      refine C.region ?_
      refine W.move rfl rfl ?_
      refine W.assign rfl rfl ?_
      refine W.nil ?_
      refine At.blockNormal ?_
      refine At.thenCode ?_
      refine C.region ?_
      refine W.move rfl rfl ?_
      first | refine W.subI rfl rfl (by omega) rfl ?_ | refine W.subW rfl rfl rfl ?_
      refine W.assign rfl rfl ?_
      refine W.nil ?_
      refine At.thenRound (m, y) (Sub.cons (rfl) (Sub.cons (rfl) (Sub.cons (rfl) (Sub.cons (look_eq rfl (iV (by omega))) (Sub.nil))))) (show w = _ ∧ (m) ≤ 36 ∧ (y) < 68719476736 ∧ bitsV true p (m) (y) = S from ?_) (show (m) < n from ?_)
      · exact ⟨rfl, by omega, hyb, by rw [if_pos (show cubeB y p = true from decide_eq_true g23)] at hst; exact hst⟩
      · omega
    · refine W.wants rfl rfl rfl rfl ?_
      refine W.move rfl rfl ?_
      refine W.wants rfl rfl rfl rfl ?_
      first | refine W.notD rfl rfl ?_ | refine W.notB rfl rfl ?_
      refine W.eqv (v' := .bool false) (rfl) ?_
      refine W.wants rfl rfl rfl rfl ?_
      refine W.move rfl rfl ?_
      refine W.skips rfl rfl rfl rfl rfl rfl ?_
      refine W.skips rfl rfl rfl rfl rfl rfl ?_
      refine W.skips rfl rfl rfl rfl rfl rfl ?_
      refine W.wants rfl rfl rfl rfl ?_
      refine W.pickF rfl rfl rfl ?_
      refine W.pickF rfl rfl rfl ?_
      refine W.nil ?_
      refine At.thenCode ?_
      refine C.condF rfl ?_
      refine C.skip ?_
      refine At.blockNormal ?_
      refine At.thenCode ?_
      refine C.region ?_
      refine W.move rfl rfl ?_
      first | refine W.subI rfl rfl (by omega) rfl ?_ | refine W.subW rfl rfl rfl ?_
      refine W.assign rfl rfl ?_
      refine W.nil ?_
      refine At.thenRound (m, z) (Sub.cons (rfl) (Sub.cons (rfl) (Sub.cons (rfl) (Sub.cons (look_eq rfl (iV (by omega))) (Sub.nil))))) (show w = _ ∧ (m) ≤ 36 ∧ (z) < 68719476736 ∧ bitsV true p (m) (z) = S from ?_) (show (m) < n from ?_)
      · exact ⟨rfl, by omega, hz, by rw [if_neg (show ¬ cubeB y p = true from fun h => g23 (of_decide_eq_true h))] at hst; exact hst⟩
      · omega
  · have hm : n = 0 := by omega
    have hzS : z = S := by rw [hm] at hv; exact hv
    refine C.exit ?_
    refine At.thenExit ?_
    refine At.thenExit ?_
    refine At.blockSelf ?_
    refine At.thenCode ?_
    refine C.seq ?_
    refine C.region ?_
    refine W.move rfl rfl ?_
    refine W.andU (M := 18446744073709551616) (n := 4294967295) rfl rfl rfl rfl rfl ?_
    rw [and32_64]
    refine W.convUU (M := 4294967296) rfl Try.underlying40 Try.underlying32 rfl rfl rfl ?_
    refine W.assign rfl rfl ?_
    refine W.nil ?_
    refine At.thenCode ?_
    refine C.ret ?_
    refine At.ret1 Try.results39 rfl ?_
    refine ⟨?_, rfl⟩
    rw [← hzS]
    try rw [Nat.mod_mod]

theorem behindS_ok (p : Nat) (hp : p < 4294967296) (w : World) :
    Ct Try.prog 39 #[.int .u64 (p : Int), .bool false] w (fun v w' => v = .int .u32 ((behV false p : Nat) : Int) ∧ w = w') := by
  refine Ct.enter [(0, .int .u64 (p : Int)), (1, .bool false)] Try.func39 rfl rfl rfl rfl ?_
  obtain ⟨S, hS⟩ : ∃ S, S = bitsV false p 36 0 := ⟨_, rfl⟩
  have hR : behV false p = S % 4294967296 := by rw [hS]; rfl
  rw [hR]
  refine C.seq ?_
  refine C.region ?_
  refine W.assign rfl rfl ?_
  refine W.nil ?_
  refine At.thenCode ?_
  refine C.seq ?_
  refine C.region ?_
  refine W.assign rfl rfl ?_
  refine W.nil ?_
  refine At.thenCode ?_
  refine C.seq ?_
  refine C.seq ?_
  refine C.region ?_
  refine W.assign rfl rfl ?_
  refine W.nil ?_
  refine At.thenCode ?_
  refine C.block ?_
  refine C.loop (X := Nat × Nat) (fun x_ => [(0, .int .u64 (p : Int)), (1, .bool false), (5, .int .u64 (x_.2 : Int)), (6, .int .i64 ((x_.1 : Int) - 1))]) (fun x_ w1 => w = w1 ∧ x_.1 ≤ 36 ∧ x_.2 < 68719476736 ∧ bitsV false p x_.1 x_.2 = S) (fun x_ => x_.1) (36, 0) (Sub.cons (rfl) (Sub.cons (rfl) (Sub.cons (rfl) (Sub.cons (rfl) (Sub.nil))))) ?start1 ?_
  case start1 =>
    show w = _ ∧ (36) ≤ 36 ∧ (0) < 68719476736 ∧ bitsV false p (36) (0) = S
    exact ⟨rfl, by omega, by omega, hS.symm⟩
  rintro ⟨n, z⟩ w1 hI_
  replace hI_ : w = w1 ∧ n ≤ 36 ∧ z < 68719476736 ∧ bitsV false p n z = S := hI_
  obtain ⟨rfl, hn, hz, hv⟩ := hI_
  refine C.weaken (l' := [(0, .int .u64 (p : Int)), (1, .bool false), (5, .int .u64 (z : Int)), (6, .int .i64 ((n : Int) - 1))]) (Sub.cons (rfl) (Sub.cons (rfl) (Sub.cons (rfl) (Sub.cons (rfl) (Sub.nil))))) ?_
  refine C.seq ?_
  refine C.seq ?_
  refine C.region ?_
  refine W.move rfl rfl ?_
  refine W.geqI rfl rfl rfl ?_
  refine W.nil ?_
  refine At.thenCode ?_
  first | refine C.condD rfl (fun c9 => ?_) (fun c9 => ?_) | refine C.cond rfl (fun c9 => ?_) (fun c9 => ?_)
  · obtain ⟨m, hm⟩ : ∃ m, n = m + 1 := ⟨n - 1, by omega⟩
    obtain ⟨y, hy⟩ : ∃ y, y = z ||| 2 ^ m := ⟨_, rfl⟩
    have h2m : 2 ^ m < 68719476736 := Nat.pow_lt_pow_right (n := 36) (by decide) (by omega)
    have hyb : y < 68719476736 := by rw [hy]; exact Nat.or_lt_two_pow (n := 36) hz h2m
    have hshl : shlM 18446744073709551616 64 1 m = 2 ^ m := by
      unfold shlM
      rw [Nat.one_mul, Nat.min_eq_left (by omega), Nat.mod_eq_of_lt (by omega)]
    have hior : iorM 18446744073709551616 z (2 ^ m) = y := by unfold iorM; rw [← hy, Nat.mod_eq_of_lt (by omega)]
    have hst : bitsV false p m (if squareB y p = true then y else z) = S := by rw [hm] at hv; rw [hy]; exact hv
    refine C.skip ?_
    refine At.thenCode ?_
    refine C.seq ?_
    refine C.block ?_
    refine C.seq ?_
    refine C.region ?_
    refine W.move rfl rfl ?_
    refine W.move rfl rfl ?_
    refine W.convIN (M := 18446744073709551616) rfl Try.underlying3 Try.underlying56 rfl rfl (by omega) rfl ?_
    rw [show ((n : Int) - 1).toNat = m from by omega]
    refine W.shlU (M := 18446744073709551616) (B := 64) (m := 1) rfl rfl rfl rfl rfl rfl ?_
    rw [hshl]
    refine W.orU (M := 18446744073709551616) rfl rfl rfl rfl rfl ?_
    rw [hior]
    refine W.assign rfl rfl ?_
    refine W.nil ?_
    refine At.thenCode ?_
    refine C.seq ?_
    refine C.region ?_
    refine W.move rfl rfl ?_
    refine W.move rfl rfl ?_
    refine W.eqv (v' := .bool false) (rfl) ?_
    refine W.skips rfl rfl rfl rfl rfl rfl ?_
    refine W.skips rfl rfl rfl rfl rfl rfl ?_
    refine W.skips rfl rfl rfl rfl rfl rfl ?_
    refine W.pickF rfl rfl rfl ?_
    refine W.move rfl rfl ?_
    refine W.wants rfl rfl rfl rfl ?_
    refine W.move rfl rfl ?_
    refine W.wants rfl rfl rfl rfl ?_
    first | refine W.notD rfl rfl ?_ | refine W.notB rfl rfl ?_
    refine W.eqv (v' := .bool true) (rfl) ?_
    refine W.wants rfl rfl rfl rfl ?_
    refine W.move rfl rfl ?_
    refine W.wants rfl rfl rfl rfl ?_
    refine W.move rfl rfl ?_
    refine W.wants rfl rfl rfl rfl ?_
    refine W.move rfl rfl ?_
    refine W.wants rfl rfl rfl rfl ?_
    refine W.call Try.call47 rfl (ShaN.square_ok y p hyb hp _) rfl ?_
    rintro v29 w29 ⟨rfl, rfl⟩
    refine W.wants rfl rfl rfl rfl ?_
    refine W.pickT rfl rfl rfl ?_
    refine W.pickF rfl rfl rfl ?_
    refine W.nil ?_
    refine At.thenCode ?_
    first | refine C.condD rfl (fun c31 => ?_) (fun c31 => ?_) | refine C.cond rfl (fun c31 => ?_) (fun c31 => ?_)
    · refine C.region ?_
      refine W.move rfl rfl ?_
      refine W.assign rfl rfl ?_
      refine W.nil ?_
      refine At.blockNormal ?_
      refine At.thenCode ?_
      refine C.region ?_
      refine W.move rfl rfl ?_
      first | refine W.subI rfl rfl (by omega) rfl ?_ | refine W.subW rfl rfl rfl ?_
      refine W.assign rfl rfl ?_
      refine W.nil ?_
      refine At.thenRound (m, y) (Sub.cons (rfl) (Sub.cons (rfl) (Sub.cons (rfl) (Sub.cons (look_eq rfl (iV (by omega))) (Sub.nil))))) (show w = _ ∧ (m) ≤ 36 ∧ (y) < 68719476736 ∧ bitsV false p (m) (y) = S from ?_) (show (m) < n from ?_)
      · exact ⟨rfl, by omega, hyb, by rw [if_pos (show squareB y p = true from decide_eq_true c31)] at hst; exact hst⟩
      · omega
    · refine C.skip ?_
      refine At.blockNormal ?_
      refine At.thenCode ?_
      refine C.region ?_
      refine W.move rfl rfl ?_
      first | refine W.subI rfl rfl (by omega) rfl ?_ | refine W.subW rfl rfl rfl ?_
      refine W.assign rfl rfl ?_
      refine W.nil ?_
      refine At.thenRound (m, z) (Sub.cons (rfl) (Sub.cons (rfl) (Sub.cons (rfl) (Sub.cons (look_eq rfl (iV (by omega))) (Sub.nil))))) (show w = _ ∧ (m) ≤ 36 ∧ (z) < 68719476736 ∧ bitsV false p (m) (z) = S from ?_) (show (m) < n from ?_)
      · exact ⟨rfl, by omega, hz, by rw [if_neg (show ¬ squareB y p = true from fun h => c31 (of_decide_eq_true h))] at hst; exact hst⟩
      · omega
  · have hm : n = 0 := by omega
    have hzS : z = S := by rw [hm] at hv; exact hv
    refine C.exit ?_
    refine At.thenExit ?_
    refine At.thenExit ?_
    refine At.blockSelf ?_
    refine At.thenCode ?_
    refine C.seq ?_
    refine C.region ?_
    refine W.move rfl rfl ?_
    refine W.andU (M := 18446744073709551616) (n := 4294967295) rfl rfl rfl rfl rfl ?_
    rw [and32_64]
    refine W.convUU (M := 4294967296) rfl Try.underlying40 Try.underlying32 rfl rfl rfl ?_
    refine W.assign rfl rfl ?_
    refine W.nil ?_
    refine At.thenCode ?_
    refine C.ret ?_
    refine At.ret1 Try.results39 rfl ?_
    refine ⟨?_, rfl⟩
    rw [← hzS]
    try rw [Nat.mod_mod]

/-! ### primes -/
def prStep (l : List Nat) (c : Nat) : List Nat := if l.all (fun q => decide (c % q ≠ 0)) = true then l ++ [c] else l
def prs : Nat → List Nat
  | 0 => []
  | k + 1 => prStep (prs k) (k + 2)
def PR : List Nat := [2, 3, 5, 7, 11, 13, 17, 19, 23, 29, 31, 37, 41, 43, 47, 53, 59, 61, 67, 71, 73, 79, 83, 89, 97, 101, 103, 107, 109, 113, 127, 131, 137, 139, 149, 151, 157, 163, 167, 173, 179, 181, 191, 193, 197, 199, 211, 223, 227, 229, 233, 239, 241, 251, 257, 263, 269, 271, 277, 281, 283, 293, 307, 311]
theorem prs_last : prs 309 = PR.take 63 := by decide +kernel
theorem prs_all : prs 310 = PR := by
  show prStep (prs 309) 311 = PR
  rw [prs_last]
  decide +kernel
theorem prs_mono (k : Nat) : (prs k).length ≤ (prs (k + 1)).length := by
  show _ ≤ (prStep (prs k) (k + 2)).length
  unfold prStep; split
  · rw [List.length_append]; exact Nat.le_add_right _ _
  · exact Nat.le_refl _
theorem prs_le {a b : Nat} (h : a ≤ b) : (prs a).length ≤ (prs b).length := by
  induction h with
  | refl => exact Nat.le_refl _
  | step _ ih => exact Nat.le_trans ih (prs_mono _)
theorem prs_two : ∀ (k : Nat), ∀ q ∈ prs k, 2 ≤ q ∧ q < k + 2
  | 0, q, h => by simp [prs] at h
  | k + 1, q, h => by
    have h : q ∈ prStep (prs k) (k + 2) := h
    unfold prStep at h
    split at h
    · rcases List.mem_append.1 h with h | h
      · have := prs_two k q h; omega
      · obtain rfl := List.mem_singleton.1 h; omega
    · have := prs_two k q h; omega
theorem prs_small {k : Nat} (h : (prs k).length < 64) : k ≤ 309 := by
  by_cases hk : k ≤ 309
  · exact hk
  · have h1 := prs_le (show 310 ≤ k by omega)
    rw [prs_all] at h1
    have : PR.length = 64 := by decide
    omega
theorem prs_done {k : Nat} (h : ¬ (prs k).length < 64) (hk : k ≤ 310) : k = 310 := by
  by_cases h1 : k ≤ 309
  · have h2 := prs_le h1
    rw [prs_last] at h2
    have : (PR.take 63).length = 63 := by decide
    omega
  · omega
theorem numsC : PR.map (behV true) = shaK := by decide +kernel
theorem numsS : (PR.take 8).map (behV false) = shaH := by decide +kernel
abbrev Us (w : World) (ao : Option Addr) (n c : Nat) (xs : List Nat) : Prop := Sl w ao n c 1 (xs.map u64V)
theorem U64 : Elem Try.prog 40 1 8 (.int .u64 0) := Elem.of (by kernel_rfl) rfl rfl
theorem primes_ok (w : World) : Ct Try.prog 38 #[.int .i64 64] w (fun v w' => (∃ ao c, v = .slice ao 64 c ∧ Us w' ao 64 c PR ∧ ∀ ad, ao = some ad → w.heap.size ≤ ad.block) ∧ Ext w w') := by
  refine Ct.enter [(0, .int .i64 64)] Try.func38 rfl rfl rfl rfl ?_
  refine C.seq ?_
  refine C.region ?_
  refine W.assign rfl rfl ?_
  refine W.nil ?_
  refine At.thenCode ?_
  refine C.seq ?_
  refine C.region ?_
  refine W.assign rfl rfl ?_
  refine W.nil ?_
  refine At.thenCode ?_
  refine C.seq ?_
  refine C.seq ?_
  refine C.region ?_
  refine W.assign rfl rfl ?_
  refine W.nil ?_
  refine At.thenCode ?_
  refine C.block ?_
  refine C.loop (X := Nat × Value) (fun x_ => [(0, .int .i64 64), (3, x_.2), (4, .int .u64 ((x_.1 + 2 : Nat) : Int))]) (fun x_ w1 => Ext w w1 ∧ x_.1 ≤ 310 ∧ World.ownsRow w1 w.heap.size 40 1 x_.2 (prs x_.1).length ((prs x_.1).map u64V)) (fun x_ => 310 - x_.1) (0, (.slice none 0 0 : Value)) (Sub.cons (rfl) (Sub.cons (rfl) (Sub.cons (rfl) (Sub.nil)))) ?start1 ?_
  case start1 =>
    show Ext w _ ∧ (0) ≤ 310 ∧ World.ownsRow _ w.heap.size 40 1 ((.slice none 0 0 : Value)) (prs (0)).length ((prs (0)).map u64V)
    exact ⟨Ext.refl _, by omega, World.ownsRow_nil _ _ _ _⟩
  rintro ⟨k, v⟩ w1 hI_
  replace hI_ : Ext w w1 ∧ k ≤ 310 ∧ World.ownsRow w1 w.heap.size 40 1 v (prs k).length ((prs k).map u64V) := hI_
  obtain ⟨hX1, hk, hO1⟩ := hI_
  refine C.weaken (l' := [(0, .int .i64 64), (3, v), (4, .int .u64 ((k + 2 : Nat) : Int))]) (Sub.cons (rfl) (Sub.cons (rfl) (Sub.cons (rfl) (Sub.nil)))) ?_
  refine C.seq ?_
  refine C.seq ?_
  refine C.region ?_
  obtain ⟨a3, c3, rfl, hS3, hb3⟩ := ownsRow_form hO1
  refine W.move rfl rfl ?_
  refine W.lenS rfl Try.underlying60 rfl ?_
  refine W.move rfl rfl ?_
  refine W.lssI rfl rfl rfl ?_
  refine W.nil ?_
  refine At.thenCode ?_
  first | refine C.condD rfl (fun c10 => ?_) (fun c10 => ?_) | refine C.cond rfl (fun c10 => ?_) (fun c10 => ?_)
  · have hl64 : (prs k).length < 64 := by omega
    have hk9 := prs_small hl64
    have hpk : prs (k + 1) = if (prs k).all (fun q => decide ((k + 2) % q ≠ 0)) = true then prs k ++ [k + 2] else prs k := rfl
    have htw := prs_two k
    refine C.skip ?_
    refine At.thenCode ?_
    refine C.seq ?_
    refine C.block ?_
    refine C.seq ?_
    refine C.region ?_
    refine W.assign rfl rfl ?_
    refine W.nil ?_
    refine At.thenCode ?_
    refine C.seq ?_
    refine C.seq ?_
    refine C.region ?_
    refine W.assign rfl rfl ?_
    refine W.nil ?_
    refine At.thenCode ?_
    refine C.block ?_
    refine C.loop (X := Nat × Bool) (fun x_ => [(0, .int .i64 64), (3, .slice a3 (prs k).length c3), (4, .int .u64 ((k + 2 : Nat) : Int)), (5, .bool x_.2), (6, .int .i64 (x_.1 : Int))]) (fun x_ w2 => w1 = w2 ∧ x_.1 ≤ (prs k).length ∧ x_.2 = ((prs k).take x_.1).all (fun q => decide ((k + 2) % q ≠ 0))) (fun x_ => (prs k).length - x_.1) (0, true) (Sub.cons (rfl) (Sub.cons (rfl) (Sub.cons (rfl) (Sub.cons (rfl) (Sub.cons (rfl) (Sub.nil)))))) ?start2 ?_
    case start2 =>
      show w1 = _ ∧ (0) ≤ (prs k).length ∧ (true) = ((prs k).take (0)).all (fun q => decide ((k + 2) % q ≠ 0))
      exact ⟨rfl, by omega, rfl⟩
    rintro ⟨j, b⟩ w2 hI_
    replace hI_ : w1 = w2 ∧ j ≤ (prs k).length ∧ b = ((prs k).take j).all (fun q => decide ((k + 2) % q ≠ 0)) := hI_
    obtain ⟨rfl, hj, hb⟩ := hI_
    refine C.weaken (l' := [(0, .int .i64 64), (3, .slice a3 (prs k).length c3), (4, .int .u64 ((k + 2 : Nat) : Int)), (5, .bool b), (6, .int .i64 (j : Int))]) (Sub.cons (rfl) (Sub.cons (rfl) (Sub.cons (rfl) (Sub.cons (rfl) (Sub.cons (rfl) (Sub.nil)))))) ?_
    refine C.seq ?_
    refine C.seq ?_
    refine C.region ?_
    refine W.move rfl rfl ?_
    refine W.move rfl rfl ?_
    refine W.lenS rfl Try.underlying60 rfl ?_
    refine W.lssI rfl rfl rfl ?_
    refine W.nil ?_
    refine At.thenCode ?_
    first | refine C.condD rfl (fun c16 => ?_) (fun c16 => ?_) | refine C.cond rfl (fun c16 => ?_) (fun c16 => ?_)
    · have hlt : j < (prs k).length := by omega
      obtain ⟨q, hq⟩ : ∃ q, q = (prs k)[j] := ⟨_, rfl⟩
      have hq2 := htw q (by rw [hq]; exact List.getElem_mem hlt)
      have hgq : ((prs k).map u64V)[j]? = some (u64V q) := by rw [hq]; simp [hlt]
      have htk : ((prs k).take (j + 1)).all (fun q => decide ((k + 2) % q ≠ 0)) = (((prs k).take j).all (fun q => decide ((k + 2) % q ≠ 0)) && decide ((k + 2) % q ≠ 0)) := by rw [List.take_succ_eq_append_getElem hlt, List.all_append, ← hq]; simp
      refine C.skip ?_
      refine At.thenCode ?_
      refine C.seq ?_
      refine C.block ?_
      refine C.region ?_
      refine W.move rfl rfl ?_
      refine W.move rfl rfl ?_
      first | refine W.splitD (fun g20 => ?_) (fun g20 => ?_) | refine W.splitB (fun g20 => ?_) (fun g20 => ?_)
      · refine W.wants rfl rfl rfl rfl ?_
        refine W.move rfl rfl ?_
        refine W.wants rfl rfl rfl rfl ?_
        refine W.move rfl rfl ?_
        refine W.wants rfl rfl rfl rfl ?_
        refine W.move rfl rfl ?_
        refine W.wants rfl rfl rfl rfl ?_
        refine W.indexS (i := (j : Int)) U64 Try.underlying60 rfl hS3 rfl ⟨by omega, by omega⟩ rfl ?_
        intro ad24 _ _ hq24
        refine W.wants rfl rfl rfl rfl ?_
        refine W.load (v := .int .u64 (q : Int)) rfl Try.underlying40 rfl (by have h := hq24 0 (u64V q) (by rw [List.getElem?_drop, Int.toNat_natCast, Nat.mul_one, Nat.add_zero]; exact hgq); rwa [add_zero'] at h) rfl ?_
        refine W.wants rfl rfl rfl rfl ?_
        refine W.remU rfl rfl (by omega) rfl ?_
        refine W.wants rfl rfl rfl rfl ?_
        refine W.neqU (n := 0) rfl rfl rfl ?_
        refine W.pickT rfl rfl rfl ?_
        refine W.assign rfl rfl ?_
        refine W.nil ?_
        refine At.blockNormal ?_
        refine At.thenCode ?_
        refine C.region ?_
        refine W.move rfl rfl ?_
        first | refine W.addI rfl rfl (by omega) rfl ?_ | refine W.addW rfl rfl rfl ?_
        refine W.assign rfl rfl ?_
        refine W.nil ?_
        refine At.thenRound (j + 1, decide ((k + 2) % q ≠ 0)) (Sub.cons (rfl) (Sub.cons (rfl) (Sub.cons (rfl) (Sub.cons (look_eq rfl (by first | rfl | (congr 1; done) | (congr 1; rw [decide_eq_decide]; omega))) (Sub.cons (look_eq rfl (iV (by omega))) (Sub.nil)))))) (show w1 = _ ∧ (j + 1) ≤ (prs k).length ∧ (decide ((k + 2) % q ≠ 0)) = ((prs k).take (j + 1)).all (fun q => decide ((k + 2) % q ≠ 0)) from ?_) (show (prs k).length - (j + 1) < (prs k).length - j from ?_)
        · exact ⟨rfl, by omega, by rw [htk, ← hb]; simp [g20]⟩
        · omega
      · refine W.skips rfl rfl rfl rfl rfl rfl ?_
        refine W.skips rfl rfl rfl rfl rfl rfl ?_
        refine W.skips rfl rfl rfl rfl rfl rfl ?_
        refine W.skips rfl rfl rfl rfl rfl rfl ?_
        refine W.skips rfl rfl rfl rfl rfl rfl ?_
        refine W.skips rfl rfl rfl rfl rfl rfl ?_
        refine W.skips rfl rfl rfl rfl rfl rfl ?_
        refine W.pickF rfl rfl rfl ?_
        refine W.assign rfl rfl ?_
        refine W.nil ?_
        refine At.blockNormal ?_
        refine At.thenCode ?_
        refine C.region ?_
        refine W.move rfl rfl ?_
        first | refine W.addI rfl rfl (by omega) rfl ?_ | refine W.addW rfl rfl rfl ?_
        refine W.assign rfl rfl ?_
        refine W.nil ?_
        refine At.thenRound (j + 1, false) (Sub.cons (rfl) (Sub.cons (rfl) (Sub.cons (rfl) (Sub.cons (rfl) (Sub.cons (look_eq rfl (iV (by omega))) (Sub.nil)))))) (show w1 = _ ∧ (j + 1) ≤ (prs k).length ∧ (false) = ((prs k).take (j + 1)).all (fun q => decide ((k + 2) % q ≠ 0)) from ?_) (show (prs k).length - (j + 1) < (prs k).length - j from ?_)
        · exact ⟨rfl, by omega, by rw [htk, ← hb]; simp [g20]⟩
        · omega
    · obtain rfl : j = (prs k).length := by omega
      rw [List.take_length] at hb
      refine C.exit ?_
      refine At.thenExit ?_
      refine At.thenExit ?_
      refine At.blockSelf ?_
      refine At.thenCode ?_
      refine C.seq ?_
      refine C.region ?_
      refine W.move rfl rfl ?_
      refine W.nil ?_
      refine At.thenCode ?_
      first | refine C.condD rfl (fun c29 => ?_) (fun c29 => ?_) | refine C.cond rfl (fun c29 => ?_) (fun c29 => ?_)
      · refine C.region ?_
        refine W.move rfl rfl ?_
        refine W.move rfl rfl ?_
        refine W.litV ([k + 2].map u64V) U64 Try.underlying60 rfl rfl (u64_oneCell _) rfl rfl rfl ?_
        intro g32 w32 hg32 hX32 _ hs32
        refine W.append (m := 1) U64 Try.underlying60 rfl rfl (ownsRow_ext hO1 hX32) hs32 (u64_oneCell _) (by omega) (by omega) (Nat.le_trans hX1.size hX32.size) rfl ?_
        intro v33 w33 hO33 hg33 _
        have hX33 : Ext w w33 := (hX1.ext hX32).news (Chg.of_grown hg33) (fun k hk => Or.inr (World.ownsRow.lt hO1 k hk.symm).1)
        refine W.assign rfl rfl ?_
        refine W.nil ?_
        refine At.blockNormal ?_
        refine At.thenCode ?_
        refine C.region ?_
        refine W.move rfl rfl ?_
        refine W.addU (M := 18446744073709551616) (n := 1) rfl rfl rfl rfl rfl ?_
        refine W.assign rfl rfl ?_
        refine W.nil ?_
        refine At.thenRound (k + 1, v33) (Sub.cons (rfl) (Sub.cons (rfl) (Sub.cons (look_eq rfl (iV (by rw [add64 (by omega)]))) (Sub.nil)))) (show Ext w _ ∧ (k + 1) ≤ 310 ∧ World.ownsRow _ w.heap.size 40 1 (v33) (prs (k + 1)).length ((prs (k + 1)).map u64V) from ?_) (show 310 - (k + 1) < 310 - k from ?_)
        · refine ⟨hX33, by omega, ?_⟩
          rw [hpk, if_pos (by rw [← hb]; assumption), List.length_append, List.map_append]
          exact hO33
        · omega
      · refine C.skip ?_
        refine At.blockNormal ?_
        refine At.thenCode ?_
        refine C.region ?_
        refine W.move rfl rfl ?_
        refine W.addU (M := 18446744073709551616) (n := 1) rfl rfl rfl rfl rfl ?_
        refine W.assign rfl rfl ?_
        refine W.nil ?_
        refine At.thenRound (k + 1, .slice a3 (prs k).length c3) (Sub.cons (rfl) (Sub.cons (rfl) (Sub.cons (look_eq rfl (iV (by rw [add64 (by omega)]))) (Sub.nil)))) (show Ext w _ ∧ (k + 1) ≤ 310 ∧ World.ownsRow _ w.heap.size 40 1 (.slice a3 (prs k).length c3) (prs (k + 1)).length ((prs (k + 1)).map u64V) from ?_) (show 310 - (k + 1) < 310 - k from ?_)
        · refine ⟨hX1, by omega, ?_⟩
          rw [hpk, if_neg (by rw [← hb]; first | assumption | simp [c29])]
          exact hO1
        · omega
  · have hk10 := prs_done (k := k) (by omega) hk
    rw [hk10, prs_all] at hS3
    rw [hk10, prs_all]
    refine C.exit ?_
    refine At.thenExit ?_
    refine At.thenExit ?_
    refine At.blockSelf ?_
    refine At.thenCode ?_
    refine C.seq ?_
    refine C.region ?_
    refine W.move rfl rfl ?_
    refine W.assign rfl rfl ?_
    refine W.nil ?_
    refine At.thenCode ?_
    refine C.ret ?_
    refine At.ret1 Try.results38 rfl ?_
    exact ⟨⟨a3, c3, rfl, hS3, hb3⟩, hX1⟩

/-! ### the numbers -/
def hsV (j : Nat) : List Value := ((PR.take j).map (behV false)).map u32V ++ List.replicate (8 - j) (u32V 0)
theorem PR_len : PR.length = 64 := by decide
theorem PR_small : ∀ q ∈ PR, q < 4294967296 := by decide
theorem hsV_len {j : Nat} (h : j ≤ 8) : (hsV j).length = 8 := by
  have := PR_len
  unfold hsV
  rw [List.length_append, List.length_map, List.length_map, List.length_take, List.length_replicate]
  omega
theorem hsV_set {j q : Nat} (h : j < 8) (hq : PR[j]? = some q) : (hsV j).set j (u32V (behV false q)) = hsV (j + 1) := by
  have := PR_len
  have hl : (((PR.take j).map (behV false)).map u32V).length = j := by rw [List.length_map, List.length_map, List.length_take]; omega
  unfold hsV
  rw [List.set_append_right _ _ (by omega), hl, Nat.sub_self, show 8 - j = (8 - (j + 1)) + 1 by omega, List.replicate_succ, List.set_cons_zero, List.take_add_one, hq]
  simp
theorem hsV_all : hsV 8 = shaH.map u32V := by
  unfold hsV
  rw [numsS]
  rfl
theorem Numbers_ok (w : World) : Ct Try.prog 18 #[] w (fun v w' => (∃ ao c, v = .tuple #[.slice ao 64 c, .agg (shaH.map u32V).toArray] ∧ Sl w' ao 64 c 1 (shaK.map u32V) ∧ ∀ ad, ao = some ad → w.heap.size ≤ ad.block) ∧ Ext w w') := by
  refine Ct.enter [] Try.func18 rfl rfl rfl rfl ?_
  have hPl := PR_len
  refine C.seq ?_
  refine C.region ?_
  refine W.assign rfl rfl ?_
  refine W.alloc (z := .agg (List.replicate 8 (u32V 0)).toArray) (List.replicate 8 (u32V 0)) (by kernel_rfl) rfl rfl ?_
  intro g1 w1 hg1 hX1 hB1
  have hl1 := hB1.lt
  refine W.nil ?_
  refine At.thenCode ?_
  refine C.seq ?_
  refine C.region ?_
  refine W.call Try.call38 rfl (ShaN.primes_ok _) rfl ?_
  rintro v7 w7 ⟨⟨ap, cp, rfl, hP7, hpb⟩, hX7⟩
  refine W.assign rfl rfl ?_
  refine W.nil ?_
  refine At.thenCode ?_
  refine C.seq ?_
  refine C.region ?_
  refine W.assign rfl rfl ?_
  refine W.nil ?_
  refine At.thenCode ?_
  refine C.seq ?_
  refine C.region ?_
  refine W.alloc (z := .agg (List.replicate 8 (u32V 0)).toArray) (List.replicate 8 (u32V 0)) (by kernel_rfl) rfl rfl ?_
  intro g4 w4 hg4 hX4 hB4
  have hl4 := hB4.lt
  have hX4w := (hX1.ext hX7).ext hX4
  have hP4 : Us w4 ap 64 cp PR := Sl.ext hP7 hX4
  have hB1a := (hB1.ext hX7).ext hX4
  have hs1 := hX1.size
  have hs7 := hX7.size
  have hB4 : Bk w4 g4 (hsV 0) := hB4
  refine W.nil ?_
  refine At.thenCode ?_
  refine C.seq ?_
  refine C.seq ?_
  refine C.region ?_
  refine W.assign rfl rfl ?_
  refine W.nil ?_
  refine At.thenCode ?_
  refine C.block ?_
  refine C.loop (X := Nat × Value) (fun x_ => [(1, .pointer (some ⟨g1, 0, none⟩)), (2, .slice ap 64 cp), (3, x_.2), (4, .pointer (some ⟨g4, 0, none⟩)), (5, .int .i64 (x_.1 : Int))]) (fun x_ wl => Ext w4 wl ∧ x_.1 ≤ 64 ∧ World.ownsRow wl w4.heap.size 32 1 x_.2 x_.1 (((PR.take x_.1).map (behV true)).map u32V)) (fun x_ => 64 - x_.1) (0, (.slice none 0 0 : Value)) (Sub.cons (rfl) (Sub.cons (rfl) (Sub.cons (rfl) (Sub.cons (rfl) (Sub.cons (rfl) (Sub.nil)))))) ?start1 ?_
  case start1 =>
    show Ext w4 _ ∧ (0) ≤ 64 ∧ World.ownsRow _ w4.heap.size 32 1 ((.slice none 0 0 : Value)) (0) (((PR.take (0)).map (behV true)).map u32V)
    exact ⟨Ext.refl _, by omega, World.ownsRow_nil _ _ _ _⟩
  rintro ⟨i, v⟩ wl hI_
  replace hI_ : Ext w4 wl ∧ i ≤ 64 ∧ World.ownsRow wl w4.heap.size 32 1 v i (((PR.take i).map (behV true)).map u32V) := hI_
  obtain ⟨hXl, hi, hO1⟩ := hI_
  refine C.weaken (l' := [(1, .pointer (some ⟨g1, 0, none⟩)), (2, .slice ap 64 cp), (3, v), (4, .pointer (some ⟨g4, 0, none⟩)), (5, .int .i64 (i : Int))]) (Sub.cons (rfl) (Sub.cons (rfl) (Sub.cons (rfl) (Sub.cons (rfl) (Sub.cons (rfl) (Sub.nil)))))) ?_
  refine C.seq ?_
  refine C.seq ?_
  refine C.region ?_
  refine W.move rfl rfl ?_
  refine W.lssI rfl rfl rfl ?_
  refine W.nil ?_
  refine At.thenCode ?_
  first | refine C.condD rfl (fun c9 => ?_) (fun c9 => ?_) | refine C.cond rfl (fun c9 => ?_) (fun c9 => ?_)
  · have hlt : i < PR.length := by omega
    obtain ⟨q, hq⟩ : ∃ q, q = PR[i] := ⟨_, rfl⟩
    have hq32 := PR_small q (by rw [hq]; exact List.getElem_mem hlt)
    have hgq : (PR.map u64V)[i]? = some (u64V q) := by rw [hq, List.getElem?_map, List.getElem?_eq_getElem hlt]; rfl
    refine C.skip ?_
    refine At.thenCode ?_
    refine C.seq ?_
    refine C.block ?_
    refine C.region ?_
    refine W.move rfl rfl ?_
    refine W.move rfl rfl ?_
    refine W.move rfl rfl ?_
    refine W.indexS (i := (i : Int)) U64 Try.underlying60 rfl (Sl.ext hP4 hXl) rfl ⟨by omega, by omega⟩ rfl ?_
    intro ad15 _ _ hq15
    refine W.load (v := .int .u64 (q : Int)) rfl Try.underlying40 rfl (by have h := hq15 0 (u64V q) (by rw [List.getElem?_drop, Int.toNat_natCast, Nat.mul_one, Nat.add_zero]; exact hgq); rwa [add_zero'] at h) rfl ?_
    refine W.call Try.call39 rfl (ShaN.behindC_ok q hq32 _) rfl ?_
    rintro v17 w17 ⟨rfl, rfl⟩
    refine W.litV ([behV true q].map u32V) X32 Try.underlying31 rfl rfl (u32_oneCell _) rfl rfl rfl ?_
    intro g18 w18 hg18 hX18 _ hs18
    refine W.append (m := 1) X32 Try.underlying31 rfl rfl (ownsRow_ext hO1 hX18) hs18 (u32_oneCell _) (by omega) (by omega) (Nat.le_trans hXl.size hX18.size) rfl ?_
    intro v19 w19 hO19 hg19 _
    have hX19 : Ext w4 w19 := (hXl.ext hX18).news (Chg.of_grown hg19) (fun k hk => Or.inr (World.ownsRow.lt hO1 k hk.symm).1)
    refine W.assign rfl rfl ?_
    refine W.nil ?_
    refine At.blockNormal ?_
    refine At.thenCode ?_
    refine C.region ?_
    refine W.move rfl rfl ?_
    first | refine W.addI rfl rfl (by omega) rfl ?_ | refine W.addW rfl rfl rfl ?_
    refine W.assign rfl rfl ?_
    refine W.nil ?_
    refine At.thenRound (i + 1, v19) (Sub.cons (rfl) (Sub.cons (rfl) (Sub.cons (rfl) (Sub.cons (rfl) (Sub.cons (look_eq rfl (iV (by omega))) (Sub.nil)))))) (show Ext w4 _ ∧ (i + 1) ≤ 64 ∧ World.ownsRow _ w4.heap.size 32 1 (v19) (i + 1) (((PR.take (i + 1)).map (behV true)).map u32V) from ?_) (show 64 - (i + 1) < 64 - i from ?_)
    · refine ⟨hX19, by omega, ?_⟩
      rw [List.take_succ_eq_append_getElem hlt, ← hq, List.map_append, List.map_append]
      exact hO19
    · omega
  · obtain rfl : i = 64 := by omega
    rw [List.take_of_length_le (by omega), numsC] at hO1
    obtain ⟨a3, c3, rfl, hS3, hb3⟩ := ownsRow_form hO1
    have hB4l := hB4.ext hXl
    have hB1l := hB1a.ext hXl
    refine C.exit ?_
    refine At.thenExit ?_
    refine At.thenExit ?_
    refine At.blockSelf ?_
    refine At.thenCode ?_
    refine C.seq ?_
    refine C.seq ?_
    refine C.region ?_
    refine W.assign rfl rfl ?_
    refine W.nil ?_
    refine At.thenCode ?_
    refine C.block ?_
    refine C.loop (X := Nat) (fun x_ => [(1, .pointer (some ⟨g1, 0, none⟩)), (2, .slice ap 64 cp), (3, .slice a3 64 c3), (4, .pointer (some ⟨g4, 0, none⟩)), (6, .int .i64 (x_ : Int))]) (fun x_ wm => Chg (fun k => k = g4) wl wm ∧ x_ ≤ 8 ∧ Bk wm g4 (hsV x_)) (fun x_ => 8 - x_) (0) (Sub.cons (rfl) (Sub.cons (rfl) (Sub.cons (rfl) (Sub.cons (rfl) (Sub.cons (rfl) (Sub.nil)))))) ?start2 ?_
    case start2 =>
      show Chg (fun k => k = g4) wl _ ∧ (0) ≤ 8 ∧ Bk _ g4 (hsV (0))
      exact ⟨Chg.refl _ _, by omega, hB4l⟩
    rintro j wm hI_
    replace hI_ : Chg (fun k => k = g4) wl wm ∧ j ≤ 8 ∧ Bk wm g4 (hsV j) := hI_
    obtain ⟨hCm, hj, hBm⟩ := hI_
    refine C.weaken (l' := [(1, .pointer (some ⟨g1, 0, none⟩)), (2, .slice ap 64 cp), (3, .slice a3 64 c3), (4, .pointer (some ⟨g4, 0, none⟩)), (6, .int .i64 (j : Int))]) (Sub.cons (rfl) (Sub.cons (rfl) (Sub.cons (rfl) (Sub.cons (rfl) (Sub.cons (rfl) (Sub.nil)))))) ?_
    refine C.seq ?_
    refine C.seq ?_
    refine C.region ?_
    refine W.move rfl rfl ?_
    refine W.lssI rfl rfl rfl ?_
    refine W.nil ?_
    refine At.thenCode ?_
    first | refine C.condD rfl (fun c21 => ?_) (fun c21 => ?_) | refine C.cond rfl (fun c21 => ?_) (fun c21 => ?_)
    · have hlt : j < PR.length := by omega
      obtain ⟨q, hq⟩ : ∃ q, q = PR[j] := ⟨_, rfl⟩
      have hq32 := PR_small q (by rw [hq]; exact List.getElem_mem hlt)
      have hgq0 : PR[j]? = some q := by rw [hq, List.getElem?_eq_getElem hlt]
      have hgq : (PR.map u64V)[j]? = some (u64V q) := by rw [List.getElem?_map, hgq0]; rfl
      have hPm : Us wm ap 64 cp PR := Sl.chg (Sl.ext hP4 hXl) hCm (fun ad e hne hk => by have h1 := Sl.blk hP7 e hne; omega)
      refine C.skip ?_
      refine At.thenCode ?_
      refine C.seq ?_
      refine C.block ?_
      refine C.region ?_
      refine W.move rfl rfl ?_
      refine W.move rfl rfl ?_
      refine W.move rfl rfl ?_
      refine W.indexS (i := (j : Int)) U64 Try.underlying60 rfl hPm rfl ⟨by omega, by omega⟩ rfl ?_
      intro ad27 _ _ hq27
      refine W.load (v := .int .u64 (q : Int)) rfl Try.underlying40 rfl (by have h := hq27 0 (u64V q) (by rw [List.getElem?_drop, Int.toNat_natCast, Nat.mul_one, Nat.add_zero]; exact hgq); rwa [add_zero'] at h) rfl ?_
      refine W.call Try.call39 rfl (ShaN.behindS_ok q hq32 _) rfl ?_
      rintro v29 w29 ⟨rfl, rfl⟩
      refine W.indexA1 Words.X32 Try.underlying33 rfl rfl (by first | omega | decide) rfl ?_
      refine W.store1 (v := u32V (behV false q)) rfl rfl rfl hBm (by rw [hsV_len (by omega)]; omega) (by kernel_rfl) ?_
      intro w30 hc30 hB30
      refine W.nil ?_
      refine At.blockNormal ?_
      refine At.thenCode ?_
      refine C.region ?_
      refine W.move rfl rfl ?_
      first | refine W.addI rfl rfl (by omega) rfl ?_ | refine W.addW rfl rfl rfl ?_
      refine W.assign rfl rfl ?_
      refine W.nil ?_
      refine At.thenRound (j + 1) (Sub.cons (rfl) (Sub.cons (rfl) (Sub.cons (rfl) (Sub.cons (rfl) (Sub.cons (look_eq rfl (iV (by omega))) (Sub.nil)))))) (show Chg (fun k => k = g4) wl _ ∧ (j + 1) ≤ 8 ∧ Bk _ g4 (hsV (j + 1)) from ?_) (show 8 - (j + 1) < 8 - j from ?_)
      · exact ⟨hCm.trans hc30, by omega, by rw [← hsV_set (q := q) (by omega) hgq0]; exact hB30⟩
      · omega
    · obtain rfl : j = 8 := by omega
      rw [hsV_all] at hBm
      have hS3m : Sl wm a3 64 c3 1 (shaK.map u32V) := Sl.chg hS3 hCm (fun ad e _ hk => by have := hb3 ad e; omega)
      have hB1m := hB1l.chg hCm (by omega)
      have hsl := hXl.size
      refine C.exit ?_
      refine At.thenExit ?_
      refine At.thenExit ?_
      refine At.blockSelf ?_
      refine At.thenCode ?_
      refine C.seq ?_
      refine C.regionAny 3 ((fun v w => v = .slice a3 64 c3) :: (fun v w => v = .agg (shaH.map u32V).toArray) :: (fun v w => v = .slice a3 64 c3) :: []) [(1, .pointer (some ⟨g1, 0, none⟩)), (3, .slice a3 64 c3), (4, .pointer (some ⟨g4, 0, none⟩))] [] (Sub.cons (rfl) (Sub.cons (rfl) (Sub.cons (rfl) (Sub.nil)))) (Sub.nil) (Sub.cons (rfl) (Sub.cons (rfl) (Sub.cons (rfl) (Sub.nil)))) (by kernel_rfl) rfl rfl rfl (And.intro (fun _ _ _ h _ => h) (And.intro (fun _ _ _ h _ => h) (And.intro (fun _ _ _ h _ => h) (trivial)))) ?_ ?_
      · refine And.intro ?_ ?_
        · intro L_ wr hX_ hs_ hf_ hd_
          refine W.step [(3, _)] (Sub.cons (hs_ _ _ rfl) (Sub.refl _)) ?_
          refine W.move rfl rfl ?_
          refine W.nil ?_
          exact At.step (Ext.refl _) rfl
        refine And.intro ?_ ?_
        · intro L_ wr hX_ hs_ hf_ hd_
          refine W.step [(4, _)] (Sub.cons (hs_ _ _ rfl) (Sub.refl _)) ?_
          refine W.loadA rfl ((hBm.ext hX_).cells (o := 0)) Try.underlying33 rfl (by kernel_rfl) rfl ?_
          refine W.nil ?_
          exact At.step (Ext.refl _) rfl
        refine And.intro ?_ ?_
        · intro L_ wr hX_ hs_ hf_ hd_
          obtain ⟨v0, e0, r0⟩ := hd_ 0 rfl
          obtain rfl : (.slice a3 64 c3 : Value) = v0 := Eq.symm r0
          refine W.step [(31, _)] (Sub.cons (e0 _ rfl) (Sub.refl _)) ?_
          refine W.assign rfl rfl ?_
          refine W.nil ?_
          exact At.step (Ext.refl _) rfl
        exact trivial
      · intro L_ wr hX12 hs_ hv_
        obtain ⟨v2, e2, r2⟩ := hv_ 2 (by decide)
        obtain rfl : (.slice a3 64 c3 : Value) = v2 := Eq.symm r2
        obtain ⟨v1, e1, r1⟩ := hv_ 1 (by decide)
        obtain rfl : (.agg (shaH.map u32V).toArray : Value) = v1 := Eq.symm r1
        refine W.weaken (l' := [(0, _), (32, _), (1, _), (3, _), (4, _)]) (Sub.cons (e2 _ rfl) (Sub.cons (e1 _ rfl) (Sub.cons (hs_ _ _ rfl) (Sub.cons (hs_ _ _ rfl) (Sub.cons (hs_ _ _ rfl) (Sub.nil)))))) ?_
        refine W.storeA (shaH.map u32V) rfl rfl (hB1m.ext hX12) rfl (by kernel_rfl) (u32_oneCell _) ?_
        intro wz hcz hBz
        refine W.nil ?_
        refine At.thenCode ?_
        refine C.ret ?_
        -- RESULT IN A CELL
        refine At.retTC Try.results18 rfl rfl (hBz.cells (o := 0)) Try.underlying33 rfl (by kernel_rfl) ⟨⟨_, _, rfl, Sl.chg (Sl.ext hS3m hX12) hcz (fun ad e _ hk => ?_), fun ad e => ?_⟩, ?_⟩
        · have := hb3 ad e
          omega
        · have := hb3 ad e
          omega
        · have hX0 : Ext w wm := (hX4w.ext hXl).news hCm (fun k hk => Or.inr (by omega))
          exact (hX0.ext hX12).news hcz (fun k hk => Or.inr (by omega))
end Go.Proofs.Ytmnndbebnojlgaa.ShaN
