/- The walks of package modp and of the reference's functions modulo P: what each returns, for all arguments. -/
import Derived.Test.YthiijdbiikljpaaProg
import Derived.Test.YthiijdbiikljpaaNa
namespace Go.Proofs.Ythiijdbiikljpaa.Modp
open Go Go.RowKit Go.Proofs.Ythiijdbiikljpaa.KW
set_option linter.unusedVariables false
set_option linter.unusedSimpArgs false
set_option maxRecDepth 100000

def powP (a e : Nat) : Nat := a ^ e % 2305843009213693951
theorem powP_lt (a e : Nat) : powP a e < 2305843009213693951 := Nat.mod_lt _ (by decide)
theorem powP_zero (a : Nat) : powP a 0 = 1 := by unfold powP; simp
theorem powP_add (a e f : Nat) : powP a (e + f) = powP a e * powP a f % 2305843009213693951 := by
  unfold powP; rw [Nat.pow_add, ← Nat.mul_mod]
theorem powP_mod (a e : Nat) : powP (a % 2305843009213693951) e = powP a e := by
  unfold powP; rw [← Nat.pow_mod]
theorem powP_mul (a e f : Nat) : powP (powP a e) f = powP a (e * f) := by
  unfold powP; rw [← Nat.pow_mod, Nat.pow_mul]
theorem powP_one (a : Nat) : powP a 1 = a % 2305843009213693951 := by unfold powP; simp
theorem powP_two (a : Nat) : powP a 2 = a * a % 2305843009213693951 := by unfold powP; rw [Nat.pow_two]
/-- One round of the program's loop. -/
theorem pow_round (out a e t : Nat) (ht : out * powP a e % 2305843009213693951 = t) :
    (e % 2 = 1 → (out * a % 2305843009213693951) * powP (a * a % 2305843009213693951) (e / 2) % 2305843009213693951 = t) ∧
    (¬ e % 2 = 1 → out * powP (a * a % 2305843009213693951) (e / 2) % 2305843009213693951 = t) := by
  subst ht
  rw [← powP_two, powP_mul]
  refine ⟨fun h => ?_, fun h => ?_⟩
  · have he : e = 1 + 2 * (e / 2) := by omega
    conv => rhs; rw [he, powP_add, powP_one]
    rw [Nat.mod_mul_mod, Nat.mul_mod_mod]
    conv => rhs; rw [← Nat.mul_mod_mod, Nat.mod_mul_mod, Nat.mul_mod_mod]
    rw [Nat.mul_assoc]
  · have he : e = 2 * (e / 2) := by omega
    rw [← he]
/-- One round of the reference's loop: from the greatest bit on. -/
theorem pow_bit (a e i : Nat) :
    (e / 2 ^ i % 2 = 1 → (powP a (e / 2 ^ (i + 1)) * powP a (e / 2 ^ (i + 1)) % 2305843009213693951) * a % 2305843009213693951 = powP a (e / 2 ^ i)) ∧
    (¬ e / 2 ^ i % 2 = 1 → powP a (e / 2 ^ (i + 1)) * powP a (e / 2 ^ (i + 1)) % 2305843009213693951 = powP a (e / 2 ^ i)) := by
  rw [Nat.pow_succ, ← Nat.div_div_eq_div_mul]
  generalize e / 2 ^ i = q
  rw [← powP_add]
  refine ⟨fun h => ?_, fun h => ?_⟩
  · have hq : q = (q / 2 + q / 2) + 1 := by omega
    conv => rhs; rw [hq, powP_add, powP_one]
    rw [Nat.mul_mod_mod]
  · have hq : q = q / 2 + q / 2 := by omega
    rw [← hq]
attribute [irreducible] powP

theorem Mul64_ok (x y : Nat) (hx : x < 18446744073709551616) (hy : y < 18446744073709551616) (w : World) :
    Ct Try.prog 89 #[.int .u64 (x : Int), .int .u64 (y : Int)] w (fun v w' => v = .tuple #[.int .u64 ((x * y / 18446744073709551616 : Nat) : Int), .int .u64 ((x * y % 18446744073709551616 : Nat) : Int)] ∧ w = w') := by
  refine Ct.enter [(0, .int .u64 (x : Int)), (1, .int .u64 (y : Int))] Try.func89 rfl rfl rfl rfl ?_
  refine C.seq ?_
  refine C.region ?_
  refine W.assign rfl rfl ?_
  refine W.assign rfl rfl ?_
  refine W.nil ?_
  refine At.thenCode ?_
  refine C.seq ?_
  refine C.region ?_
  refine W.move rfl rfl ?_
  refine W.andU (M := 18446744073709551616) (n := 4294967295) rfl rfl rfl rfl rfl ?_
  refine W.assign rfl rfl ?_
  refine W.nil ?_
  refine At.thenCode ?_
  refine C.seq ?_
  refine C.region ?_
  refine W.move rfl rfl ?_
  refine W.shrU (B := 64) (s := 32) rfl rfl rfl rfl ?_
  refine W.assign rfl rfl ?_
  refine W.nil ?_
  refine At.thenCode ?_
  refine C.seq ?_
  refine C.region ?_
  refine W.move rfl rfl ?_
  refine W.andU (M := 18446744073709551616) (n := 4294967295) rfl rfl rfl rfl rfl ?_
  refine W.assign rfl rfl ?_
  refine W.nil ?_
  refine At.thenCode ?_
  refine C.seq ?_
  refine C.region ?_
  refine W.move rfl rfl ?_
  refine W.shrU (B := 64) (s := 32) rfl rfl rfl rfl ?_
  refine W.assign rfl rfl ?_
  refine W.nil ?_
  refine At.thenCode ?_
  refine C.seq ?_
  refine C.region ?_
  refine W.move rfl rfl ?_
  refine W.move rfl rfl ?_
  refine W.mulU (M := 18446744073709551616) rfl rfl rfl rfl rfl ?_
  refine W.assign rfl rfl ?_
  refine W.nil ?_
  refine At.thenCode ?_
  refine C.seq ?_
  refine C.region ?_
  refine W.move rfl rfl ?_
  refine W.move rfl rfl ?_
  refine W.mulU (M := 18446744073709551616) rfl rfl rfl rfl rfl ?_
  refine W.move rfl rfl ?_
  refine W.shrU (B := 64) (s := 32) rfl rfl rfl rfl ?_
  refine W.addU (M := 18446744073709551616) rfl rfl rfl rfl rfl ?_
  refine W.assign rfl rfl ?_
  refine W.nil ?_
  refine At.thenCode ?_
  refine C.seq ?_
  refine C.region ?_
  refine W.move rfl rfl ?_
  refine W.andU (M := 18446744073709551616) (n := 4294967295) rfl rfl rfl rfl rfl ?_
  refine W.assign rfl rfl ?_
  refine W.nil ?_
  refine At.thenCode ?_
  refine C.seq ?_
  refine C.region ?_
  refine W.move rfl rfl ?_
  refine W.shrU (B := 64) (s := 32) rfl rfl rfl rfl ?_
  refine W.assign rfl rfl ?_
  refine W.nil ?_
  refine At.thenCode ?_
  refine C.seq ?_
  refine C.region ?_
  refine W.move rfl rfl ?_
  refine W.move rfl rfl ?_
  refine W.move rfl rfl ?_
  refine W.mulU (M := 18446744073709551616) rfl rfl rfl rfl rfl ?_
  refine W.addU (M := 18446744073709551616) rfl rfl rfl rfl rfl ?_
  refine W.assign rfl rfl ?_
  refine W.nil ?_
  refine At.thenCode ?_
  refine C.seq ?_
  refine C.region ?_
  refine W.move rfl rfl ?_
  refine W.move rfl rfl ?_
  refine W.mulU (M := 18446744073709551616) rfl rfl rfl rfl rfl ?_
  refine W.move rfl rfl ?_
  refine W.addU (M := 18446744073709551616) rfl rfl rfl rfl rfl ?_
  refine W.move rfl rfl ?_
  refine W.shrU (B := 64) (s := 32) rfl rfl rfl rfl ?_
  refine W.addU (M := 18446744073709551616) rfl rfl rfl rfl rfl ?_
  refine W.assign rfl rfl ?_
  refine W.nil ?_
  refine At.thenCode ?_
  refine C.seq ?_
  refine C.region ?_
  refine W.move rfl rfl ?_
  refine W.move rfl rfl ?_
  refine W.mulU (M := 18446744073709551616) rfl rfl rfl rfl rfl ?_
  refine W.assign rfl rfl ?_
  refine W.nil ?_
  refine At.thenCode ?_
  refine C.ret ?_
  refine At.ret2 Try.results89 rfl rfl ?_
  rw [hi_eq x y hx hy]
  exact ⟨rfl, rfl⟩

theorem Reduce_ok (x : Nat) (hx : x < 18446744073709551616) (w : World) :
    Ct Try.prog 87 #[.int .u64 (x : Int)] w (fun v w' => v = .int .u64 ((x % 2305843009213693951 : Nat) : Int) ∧ w = w') := by
  refine Ct.enter [(0, .int .u64 (x : Int))] Try.func87 rfl rfl rfl rfl ?_
  refine C.seq ?_
  refine C.region ?_
  refine W.assign rfl rfl ?_
  refine W.nil ?_
  refine At.thenCode ?_
  refine C.seq ?_
  refine C.region ?_
  refine W.move rfl rfl ?_
  refine W.shrU (B := 64) (s := 61) rfl rfl rfl rfl ?_
  refine W.move rfl rfl ?_
  refine W.andU (M := 18446744073709551616) (n := 2305843009213693951) rfl rfl rfl rfl rfl ?_
  refine W.addU (M := 18446744073709551616) rfl rfl rfl rfl rfl ?_
  refine W.assign rfl rfl ?_
  refine W.nil ?_
  refine At.thenCode ?_
  refine C.seq ?_
  refine C.seq ?_
  refine C.region ?_
  refine W.move rfl rfl ?_
  refine W.geqU (n := 2305843009213693951) rfl rfl rfl ?_
  refine W.nil ?_
  refine At.thenCode ?_
  first | refine C.condD rfl (fun c9 => ?_) (fun c9 => ?_) | refine C.cond rfl (fun c9 => ?_) (fun c9 => ?_)
  · refine C.seq ?_
    refine C.region ?_
    refine W.move rfl rfl ?_
    refine W.subU (M := 18446744073709551616) (n := 2305843009213693951) rfl rfl rfl rfl rfl ?_
    refine W.assign rfl rfl ?_
    refine W.nil ?_
    refine At.thenCode ?_
    refine C.ret ?_
    refine At.thenRet ?_
    refine At.ret1 Try.results87 rfl ?_
    exact ⟨by rw [(red_eq x hx).1 c9], rfl⟩
  · refine C.skip ?_
    refine At.thenCode ?_
    refine C.seq ?_
    refine C.region ?_
    refine W.move rfl rfl ?_
    refine W.assign rfl rfl ?_
    refine W.nil ?_
    refine At.thenCode ?_
    refine C.ret ?_
    refine At.ret1 Try.results87 rfl ?_
    exact ⟨by rw [(red_eq x hx).2 c9], rfl⟩



theorem Mul_ok (a b : Nat) (ha : a < 18446744073709551616) (hb : b < 18446744073709551616) (w : World) :
    Ct Try.prog 88 #[.int .u64 (a : Int), .int .u64 (b : Int)] w (fun v w' => v = .int .u64 ((a * b % 2305843009213693951 : Nat) : Int) ∧ w = w') := by
  refine Ct.enter [(0, .int .u64 (a : Int)), (1, .int .u64 (b : Int))] Try.func88 rfl rfl rfl rfl ?_
  have h1 := mod_lt_P a
  have h2 := mod_lt_P b
  have h3 := addM_lt (M := 18446744073709551616) (by decide)
  refine C.seq ?_
  refine C.region ?_
  refine W.assign rfl rfl ?_
  refine W.nil ?_
  refine At.thenCode ?_
  refine C.seq ?_
  refine C.region ?_
  refine W.move rfl rfl ?_
  refine W.call Try.call87 rfl (Modp.Reduce_ok _ (by first | omega | exact addM_lt (by decide) _ _) _) rfl ?_
  rintro v w' ⟨rfl, rfl⟩
  refine W.move rfl rfl ?_
  refine W.call Try.call87 rfl (Modp.Reduce_ok _ (by first | omega | exact addM_lt (by decide) _ _) _) rfl ?_
  rintro v w' ⟨rfl, rfl⟩
  refine W.call Try.call89 rfl (Modp.Mul64_ok _ _ (by first | omega | decide) (by first | omega | decide) _) rfl ?_
  rintro v w' ⟨rfl, rfl⟩
  refine W.move rfl rfl ?_
  refine W.extract rfl rfl rfl ?_
  refine W.extract rfl rfl rfl ?_
  refine W.assign rfl rfl ?_
  refine W.assign rfl rfl ?_
  refine W.nil ?_
  refine At.thenCode ?_
  refine C.seq ?_
  refine C.region ?_
  refine W.move rfl rfl ?_
  refine W.shlU (M := 18446744073709551616) (B := 64) (s := 3) rfl rfl rfl rfl rfl rfl ?_
  refine W.move rfl rfl ?_
  refine W.shrU (B := 64) (s := 61) rfl rfl rfl rfl ?_
  refine W.addU (M := 18446744073709551616) rfl rfl rfl rfl rfl ?_
  refine W.move rfl rfl ?_
  refine W.andU (M := 18446744073709551616) (n := 2305843009213693951) rfl rfl rfl rfl rfl ?_
  refine W.addU (M := 18446744073709551616) rfl rfl rfl rfl rfl ?_
  refine W.call Try.call87 rfl (Modp.Reduce_ok _ (by first | omega | exact addM_lt (by decide) _ _) _) rfl ?_
  rintro v w' ⟨rfl, rfl⟩
  refine W.assign rfl rfl ?_
  refine W.nil ?_
  refine At.thenCode ?_
  refine C.ret ?_
  refine At.ret1 Try.results88 rfl ?_
  rw [mulP_prog _ _ h1 h2, ← Nat.mul_mod]
  exact ⟨rfl, rfl⟩

theorem Pow_ok (a e : Nat) (ha : a < 18446744073709551616) (he : e < 18446744073709551616) (w : World) :
    Ct Try.prog 83 #[.int .u64 (a : Int), .int .u64 (e : Int)] w (fun v w' => v = .int .u64 ((powP a e : Nat) : Int) ∧ w = w') := by
  refine Ct.enter [(0, .int .u64 (a : Int)), (1, .int .u64 (e : Int))] Try.func83 rfl rfl rfl rfl ?_
  refine C.seq ?_
  refine C.region ?_
  refine W.assign rfl rfl ?_
  refine W.nil ?_
  refine At.thenCode ?_
  refine C.seq ?_
  refine C.region ?_
  refine W.assign rfl rfl ?_
  refine W.nil ?_
  refine At.thenCode ?_
  refine C.seq ?_
  refine C.seq ?_
  refine C.region ?_
  refine W.move rfl rfl ?_
  refine W.call Try.call87 rfl (Modp.Reduce_ok _ (by first | omega | exact addM_lt (by decide) _ _) _) rfl ?_
  rintro v w' ⟨rfl, rfl⟩
  refine W.assign rfl rfl ?_
  refine W.nil ?_
  refine At.thenCode ?_
  refine C.block ?_
  refine C.loop (X := Nat × Nat × Nat) (fun x_ => [(0, .int .u64 (x_.1 : Int)), (1, .int .u64 (x_.2.1 : Int)), (5, .int .u64 (x_.2.2 : Int))]) (fun x_ w1 => w = w1 ∧ x_.1 < 2305843009213693951 ∧ x_.2.1 < 18446744073709551616 ∧ x_.2.2 < 2305843009213693951 ∧ x_.2.2 * powP x_.1 x_.2.1 % 2305843009213693951 = powP a e) (fun x_ => x_.2.1) (a % 2305843009213693951, e, 1) (Sub.cons (rfl) (Sub.cons (rfl) (Sub.cons (rfl) (Sub.nil)))) ?start1 ?_
  case start1 =>
    show w = _ ∧ (a % 2305843009213693951) < 2305843009213693951 ∧ (e) < 18446744073709551616 ∧ (1) < 2305843009213693951 ∧ (1) * powP (a % 2305843009213693951) (e) % 2305843009213693951 = powP a e
    exact ⟨rfl, mod_lt_P a, he, by omega, by rw [Nat.one_mul, powP_mod, Nat.mod_eq_of_lt (powP_lt _ _)]⟩
  rintro ⟨a', e', o'⟩ w1 hI_
  replace hI_ : w = w1 ∧ a' < 2305843009213693951 ∧ e' < 18446744073709551616 ∧ o' < 2305843009213693951 ∧ o' * powP a' e' % 2305843009213693951 = powP a e := hI_
  obtain ⟨rfl, ha', he', ho', hinv⟩ := hI_
  refine C.weaken (l' := [(0, .int .u64 (a' : Int)), (1, .int .u64 (e' : Int)), (5, .int .u64 (o' : Int))]) (Sub.cons (rfl) (Sub.cons (rfl) (Sub.cons (rfl) (Sub.nil)))) ?_
  refine C.seq ?_
  refine C.seq ?_
  refine C.region ?_
  refine W.move rfl rfl ?_
  refine W.gtrU (n := 0) rfl rfl rfl ?_
  refine W.nil ?_
  refine At.thenCode ?_
  first | refine C.condD rfl (fun c9 => ?_) (fun c9 => ?_) | refine C.cond rfl (fun c9 => ?_) (fun c9 => ?_)
  · refine C.skip ?_
    refine At.thenCode ?_
    refine C.seq ?_
    refine C.block ?_
    refine C.seq ?_
    refine C.seq ?_
    refine C.region ?_
    refine W.move rfl rfl ?_
    refine W.andU (M := 18446744073709551616) (n := 1) rfl rfl rfl rfl rfl ?_
    refine W.eqlU (n := 1) rfl rfl rfl ?_
    refine W.nil ?_
    refine At.thenCode ?_
    first | refine C.condD rfl (fun c14 => ?_) (fun c14 => ?_) | refine C.cond rfl (fun c14 => ?_) (fun c14 => ?_)
    · refine C.region ?_
      refine W.move rfl rfl ?_
      refine W.move rfl rfl ?_
      refine W.call Try.call88 rfl (Modp.Mul_ok _ _ (by first | omega | decide) (by first | omega | decide) _) rfl ?_
      rintro v w' ⟨rfl, rfl⟩
      refine W.assign rfl rfl ?_
      refine W.nil ?_
      refine At.thenCode ?_
      refine C.region ?_
      refine W.move rfl rfl ?_
      refine W.move rfl rfl ?_
      refine W.call Try.call88 rfl (Modp.Mul_ok _ _ (by first | omega | decide) (by first | omega | decide) _) rfl ?_
      rintro v w' ⟨rfl, rfl⟩
      refine W.assign rfl rfl ?_
      refine W.nil ?_
      refine At.blockNormal ?_
      refine At.thenCode ?_
      refine C.region ?_
      refine W.move rfl rfl ?_
      refine W.shrU (B := 64) (s := 1) rfl rfl rfl rfl ?_
      refine W.assign rfl rfl ?_
      refine W.nil ?_
      have hr := (pow_round o' a' e' _ hinv).1 (by rw [and1_64] at c14; exact c14)
      refine At.thenRound (a' * a' % 2305843009213693951, shrM 64 e' 1, o' * a' % 2305843009213693951) (Sub.cons (rfl) (Sub.cons (rfl) (Sub.cons (rfl) (Sub.nil)))) (show w = _ ∧ (a' * a' % 2305843009213693951) < 2305843009213693951 ∧ (shrM 64 e' 1) < 18446744073709551616 ∧ (o' * a' % 2305843009213693951) < 2305843009213693951 ∧ (o' * a' % 2305843009213693951) * powP (a' * a' % 2305843009213693951) (shrM 64 e' 1) % 2305843009213693951 = powP a e from ?_) (show (shrM 64 e' 1) < e' from ?_)
      · rw [shr1_64]; exact ⟨rfl, mod_lt_P _, by omega, mod_lt_P _, hr⟩
      · rw [shr1_64]; omega
    · refine C.skip ?_
      refine At.thenCode ?_
      refine C.region ?_
      refine W.move rfl rfl ?_
      refine W.move rfl rfl ?_
      refine W.call Try.call88 rfl (Modp.Mul_ok _ _ (by first | omega | decide) (by first | omega | decide) _) rfl ?_
      rintro v w' ⟨rfl, rfl⟩
      refine W.assign rfl rfl ?_
      refine W.nil ?_
      refine At.blockNormal ?_
      refine At.thenCode ?_
      refine C.region ?_
      refine W.move rfl rfl ?_
      refine W.shrU (B := 64) (s := 1) rfl rfl rfl rfl ?_
      refine W.assign rfl rfl ?_
      refine W.nil ?_
      have hr := (pow_round o' a' e' _ hinv).2 (by rw [and1_64] at c14; exact c14)
      refine At.thenRound (a' * a' % 2305843009213693951, shrM 64 e' 1, o') (Sub.cons (rfl) (Sub.cons (rfl) (Sub.cons (rfl) (Sub.nil)))) (show w = _ ∧ (a' * a' % 2305843009213693951) < 2305843009213693951 ∧ (shrM 64 e' 1) < 18446744073709551616 ∧ (o') < 2305843009213693951 ∧ (o') * powP (a' * a' % 2305843009213693951) (shrM 64 e' 1) % 2305843009213693951 = powP a e from ?_) (show (shrM 64 e' 1) < e' from ?_)
      · rw [shr1_64]; exact ⟨rfl, mod_lt_P _, by omega, ho', hr⟩
      · rw [shr1_64]; omega
  · refine C.exit ?_
    refine At.thenExit ?_
    refine At.thenExit ?_
    refine At.blockSelf ?_
    refine At.thenCode ?_
    refine C.seq ?_
    refine C.region ?_
    refine W.move rfl rfl ?_
    refine W.assign rfl rfl ?_
    refine W.nil ?_
    refine At.thenCode ?_
    refine C.ret ?_
    refine At.ret1 Try.results83 rfl ?_
    obtain rfl : e' = 0 := by omega
    rw [powP_zero, Nat.mul_one, Nat.mod_eq_of_lt ho'] at hinv
    exact ⟨by rw [hinv], rfl⟩


theorem wide_ok (a b : Nat) (ha : a < 18446744073709551616) (hb : b < 18446744073709551616) (w : World) :
    Ct Try.prog 85 #[.int .u64 (a : Int), .int .u64 (b : Int)] w (fun v w' => v = .tuple #[.int .u64 ((a * b / 18446744073709551616 : Nat) : Int), .int .u64 ((a * b % 18446744073709551616 : Nat) : Int)] ∧ w = w') := by
  refine Ct.enter [(0, .int .u64 (a : Int)), (1, .int .u64 (b : Int))] Try.func85 rfl rfl rfl rfl ?_
  obtain ⟨x, hx⟩ : ∃ x, x = (a % 4294967296) * (b % 4294967296) := ⟨_, rfl⟩
  obtain ⟨y, hy⟩ : ∃ y, y = (a / 4294967296) * (b % 4294967296) := ⟨_, rfl⟩
  obtain ⟨z, hz⟩ : ∃ z, z = (a % 4294967296) * (b / 4294967296) := ⟨_, rfl⟩
  obtain ⟨g1, g2, g3, g4, g5, g6⟩ := wide_eq a b ha hb x y z _ hx hy hz rfl
  refine C.seq ?_
  refine C.region ?_
  refine W.assign rfl rfl ?_
  refine W.assign rfl rfl ?_
  refine W.nil ?_
  refine At.thenCode ?_
  refine C.seq ?_
  refine C.region ?_
  refine W.assign rfl rfl ?_
  refine W.eqv (v' := .int .u64 ((4294967295 : Nat) : Int)) rfl ?_
  refine W.nil ?_
  refine At.thenCode ?_
  refine C.seq ?_
  refine C.region ?_
  refine W.move rfl rfl ?_
  refine W.move rfl rfl ?_
  refine W.andU (M := 18446744073709551616) rfl rfl rfl rfl rfl ?_
  refine W.move rfl rfl ?_
  refine W.move rfl rfl ?_
  refine W.andU (M := 18446744073709551616) rfl rfl rfl rfl rfl ?_
  refine W.mulU (M := 18446744073709551616) rfl rfl rfl rfl rfl ?_
  rw [and32_64, and32_64, mul64 (by omega), ← hx]
  refine W.assign rfl rfl ?_
  refine W.nil ?_
  refine At.thenCode ?_
  refine C.seq ?_
  refine C.region ?_
  refine W.move rfl rfl ?_
  refine W.shrU (B := 64) (s := 32) rfl rfl rfl rfl ?_
  refine W.move rfl rfl ?_
  refine W.move rfl rfl ?_
  refine W.andU (M := 18446744073709551616) rfl rfl rfl rfl rfl ?_
  refine W.mulU (M := 18446744073709551616) rfl rfl rfl rfl rfl ?_
  rw [and32_64, shr32_64, mul64 (by omega), ← hy]
  refine W.assign rfl rfl ?_
  refine W.nil ?_
  refine At.thenCode ?_
  refine C.seq ?_
  refine C.region ?_
  refine W.move rfl rfl ?_
  refine W.move rfl rfl ?_
  refine W.andU (M := 18446744073709551616) rfl rfl rfl rfl rfl ?_
  refine W.move rfl rfl ?_
  refine W.shrU (B := 64) (s := 32) rfl rfl rfl rfl ?_
  refine W.mulU (M := 18446744073709551616) rfl rfl rfl rfl rfl ?_
  rw [and32_64, shr32_64, mul64 (by omega), ← hz]
  refine W.assign rfl rfl ?_
  refine W.nil ?_
  refine At.thenCode ?_
  refine C.seq ?_
  refine C.region ?_
  refine W.move rfl rfl ?_
  refine W.shrU (B := 64) (s := 32) rfl rfl rfl rfl ?_
  refine W.move rfl rfl ?_
  refine W.move rfl rfl ?_
  refine W.andU (M := 18446744073709551616) rfl rfl rfl rfl rfl ?_
  refine W.addU (M := 18446744073709551616) rfl rfl rfl rfl rfl ?_
  refine W.move rfl rfl ?_
  refine W.move rfl rfl ?_
  refine W.andU (M := 18446744073709551616) rfl rfl rfl rfl rfl ?_
  refine W.addU (M := 18446744073709551616) rfl rfl rfl rfl rfl ?_
  rw [and32_64, and32_64, shr32_64, add64 (m := x / 4294967296) (by omega), add64 (by omega)]
  refine W.assign rfl rfl ?_
  refine W.nil ?_
  refine At.thenCode ?_
  refine C.seq ?_
  refine C.region ?_
  refine W.move rfl rfl ?_
  refine W.shrU (B := 64) (s := 32) rfl rfl rfl rfl ?_
  refine W.move rfl rfl ?_
  refine W.shrU (B := 64) (s := 32) rfl rfl rfl rfl ?_
  refine W.mulU (M := 18446744073709551616) rfl rfl rfl rfl rfl ?_
  refine W.move rfl rfl ?_
  refine W.shrU (B := 64) (s := 32) rfl rfl rfl rfl ?_
  refine W.addU (M := 18446744073709551616) rfl rfl rfl rfl rfl ?_
  refine W.move rfl rfl ?_
  refine W.shrU (B := 64) (s := 32) rfl rfl rfl rfl ?_
  refine W.addU (M := 18446744073709551616) rfl rfl rfl rfl rfl ?_
  refine W.move rfl rfl ?_
  refine W.shrU (B := 64) (s := 32) rfl rfl rfl rfl ?_
  refine W.addU (M := 18446744073709551616) rfl rfl rfl rfl rfl ?_
  rw [shr32_64, shr32_64, shr32_64, shr32_64, shr32_64, mul64 (by omega), add64 (m := a / 4294967296 * (b / 4294967296)) (by omega), add64 (m := a / 4294967296 * (b / 4294967296) + y / 4294967296) (by omega), add64 (by omega), g1]
  refine W.move rfl rfl ?_
  refine W.shlU (M := 18446744073709551616) (B := 64) (s := 32) rfl rfl rfl rfl rfl rfl ?_
  refine W.move rfl rfl ?_
  refine W.move rfl rfl ?_
  refine W.andU (M := 18446744073709551616) rfl rfl rfl rfl rfl ?_
  refine W.orU (M := 18446744073709551616) rfl rfl rfl rfl rfl ?_
  rw [and32_64, g2]
  refine W.assign rfl rfl ?_
  refine W.assign rfl rfl ?_
  refine W.nil ?_
  refine At.thenCode ?_
  refine C.ret ?_
  refine At.ret2 Try.results85 rfl rfl ?_
  exact ⟨rfl, rfl⟩



theorem MulP_ok (a b : Nat) (ha : a < 18446744073709551616) (hb : b < 18446744073709551616) (w : World) :
    Ct Try.prog 78 #[.int .u64 (a : Int), .int .u64 (b : Int)] w (fun v w' => v = .int .u64 ((a * b % 2305843009213693951 : Nat) : Int) ∧ w = w') := by
  refine Ct.enter [(0, .int .u64 (a : Int)), (1, .int .u64 (b : Int))] Try.func78 rfl rfl rfl rfl ?_
  have h1 := mod_lt_P a
  have h2 := mod_lt_P b
  refine C.seq ?_
  refine C.region ?_
  refine W.assign rfl rfl ?_
  refine W.nil ?_
  refine At.thenCode ?_
  refine C.seq ?_
  refine C.region ?_
  refine W.move rfl rfl ?_
  refine W.remU (n := 2305843009213693951) rfl rfl (by omega) rfl ?_
  refine W.move rfl rfl ?_
  refine W.remU (n := 2305843009213693951) rfl rfl (by omega) rfl ?_
  refine W.call Try.call85 rfl (Modp.wide_ok _ _ (by first | omega | decide) (by first | omega | decide) _) rfl ?_
  rintro v w' ⟨rfl, rfl⟩
  refine W.move rfl rfl ?_
  refine W.extract rfl rfl rfl ?_
  refine W.extract rfl rfl rfl ?_
  refine W.assign rfl rfl ?_
  refine W.assign rfl rfl ?_
  refine W.nil ?_
  refine At.thenCode ?_
  refine C.seq ?_
  refine C.region ?_
  refine W.move rfl rfl ?_
  refine W.shlU (M := 18446744073709551616) (B := 64) (s := 3) rfl rfl rfl rfl rfl rfl ?_
  refine W.move rfl rfl ?_
  refine W.shrU (B := 64) (s := 61) rfl rfl rfl rfl ?_
  refine W.orU (M := 18446744073709551616) rfl rfl rfl rfl rfl ?_
  refine W.move rfl rfl ?_
  refine W.andU (M := 18446744073709551616) (n := 2305843009213693951) rfl rfl rfl rfl rfl ?_
  refine W.addU (M := 18446744073709551616) rfl rfl rfl rfl rfl ?_
  refine W.remU (n := 2305843009213693951) rfl rfl (by omega) rfl ?_
  refine W.assign rfl rfl ?_
  refine W.nil ?_
  refine At.thenCode ?_
  refine C.ret ?_
  refine At.ret1 Try.results78 rfl ?_
  exact ⟨by rw [mulP_ref _ _ h1 h2, ← Nat.mul_mod], rfl⟩

theorem PowP_ok (a e : Nat) (ha : a < 18446744073709551616) (he : e < 18446744073709551616) (w : World) :
    Ct Try.prog 62 #[.int .u64 (a : Int), .int .u64 (e : Int)] w (fun v w' => v = .int .u64 ((powP a e : Nat) : Int) ∧ w = w') := by
  refine Ct.enter [(0, .int .u64 (a : Int)), (1, .int .u64 (e : Int))] Try.func62 rfl rfl rfl rfl ?_
  have h1 := mod_lt_P a
  refine C.seq ?_
  refine C.region ?_
  refine W.assign rfl rfl ?_
  refine W.nil ?_
  refine At.thenCode ?_
  refine C.seq ?_
  refine C.region ?_
  refine W.assign rfl rfl ?_
  refine W.nil ?_
  refine At.thenCode ?_
  refine C.seq ?_
  refine C.region ?_
  refine W.move rfl rfl ?_
  refine W.remU (n := 2305843009213693951) rfl rfl (by omega) rfl ?_
  refine W.assign rfl rfl ?_
  refine W.nil ?_
  refine At.thenCode ?_
  refine C.seq ?_
  refine C.seq ?_
  refine C.region ?_
  refine W.assign rfl rfl ?_
  refine W.nil ?_
  refine At.thenCode ?_
  refine C.block ?_
  refine C.loop (X := Int) (fun x_ => [(0, .int .u64 ((a % 2305843009213693951 : Nat) : Int)), (1, .int .u64 (e : Int)), (5, .int .u64 ((powP a (e / 2 ^ (x_ + 1).toNat) : Nat) : Int)), (6, .int .i64 x_)]) (fun x_ w1 => w = w1 ∧ -1 ≤ x_ ∧ x_ ≤ 63) (fun x_ => (x_ + 1).toNat) (63) (Sub.cons (rfl) (Sub.cons (rfl) (Sub.cons (look_eq rfl (by rw [show e / 2 ^ ((63 : Int) + 1).toNat = 0 from Nat.div_eq_of_lt he, powP_zero]; rfl)) (Sub.cons (rfl) (Sub.nil))))) ?start1 ?_
  case start1 =>
    show w = _ ∧ -1 ≤ (63) ∧ (63) ≤ 63
    exact ⟨rfl, by decide, by decide⟩
  rintro i w1 hI_
  replace hI_ : w = w1 ∧ -1 ≤ i ∧ i ≤ 63 := hI_
  obtain ⟨rfl, hi1, hi2⟩ := hI_
  refine C.weaken (l' := [(0, .int .u64 ((a % 2305843009213693951 : Nat) : Int)), (1, .int .u64 (e : Int)), (5, .int .u64 ((powP a (e / 2 ^ (i + 1).toNat) : Nat) : Int)), (6, .int .i64 i)]) (Sub.cons (rfl) (Sub.cons (rfl) (Sub.cons (rfl) (Sub.cons (rfl) (Sub.nil))))) ?_
  have hp := powP_lt a (e / 2 ^ (i + 1).toNat)
  refine C.seq ?_
  refine C.seq ?_
  refine C.region ?_
  refine W.move rfl rfl ?_
  refine W.geqI rfl rfl rfl ?_
  refine W.nil ?_
  refine At.thenCode ?_
  first | refine C.condD rfl (fun c10 => ?_) (fun c10 => ?_) | refine C.cond rfl (fun c10 => ?_) (fun c10 => ?_)
  · refine C.skip ?_
    refine At.thenCode ?_
    refine C.seq ?_
    refine C.block ?_
    refine C.seq ?_
    refine C.region ?_
    refine W.move rfl rfl ?_
    refine W.move rfl rfl ?_
    refine W.call Try.call78 rfl (Modp.MulP_ok _ _ (by first | omega | decide) (by first | omega | decide) _) rfl ?_
    rintro v w' ⟨rfl, rfl⟩
    refine W.assign rfl rfl ?_
    refine W.nil ?_
    refine At.thenCode ?_
    refine C.seq ?_
    refine C.region ?_
    refine W.move rfl rfl ?_
    refine W.move rfl rfl ?_
    first | refine W.convIN (M := 18446744073709551616) rfl Try.underlying3 Try.underlying111 rfl rfl (by omega) rfl ?_ | refine W.convIU (M := 18446744073709551616) rfl Try.underlying3 Try.underlying111 rfl rfl rfl ?_
    refine W.shrU (B := 64) rfl rfl rfl rfl ?_
    refine W.andU (M := 18446744073709551616) (n := 1) rfl rfl rfl rfl rfl ?_
    refine W.eqlU (n := 1) rfl rfl rfl ?_
    refine W.nil ?_
    refine At.thenCode ?_
    first | refine C.condD rfl (fun c21 => ?_) (fun c21 => ?_) | refine C.cond rfl (fun c21 => ?_) (fun c21 => ?_)
    · refine C.region ?_
      refine W.move rfl rfl ?_
      refine W.move rfl rfl ?_
      refine W.call Try.call78 rfl (Modp.MulP_ok _ _ (by first | omega | decide) (by first | omega | decide) _) rfl ?_
      rintro v w' ⟨rfl, rfl⟩
      refine W.assign rfl rfl ?_
      refine W.nil ?_
      refine At.blockNormal ?_
      refine At.thenCode ?_
      refine C.region ?_
      refine W.move rfl rfl ?_
      first | refine W.subI rfl rfl (by omega) rfl ?_ | refine W.subW rfl rfl rfl ?_
      refine W.assign rfl rfl ?_
      refine W.nil ?_
      have hk : (i + 1).toNat = i.toNat + 1 := by omega
      have hr := (pow_bit a e i.toNat).1 (by rw [and1_64] at c21; simpa [shrM, show min i.toNat 64 = i.toNat by omega] using c21)
      rw [← hk] at hr
      refine At.thenRound (i - 1) (Sub.cons (rfl) (Sub.cons (rfl) (Sub.cons (look_eq rfl (by rw [show (i - 1 + 1).toNat = i.toNat by omega, ← hr, Nat.mul_mod_mod])) (Sub.cons (rfl) (Sub.nil))))) (show w = _ ∧ -1 ≤ (i - 1) ∧ (i - 1) ≤ 63 from ?_) (show ((i - 1) + 1).toNat < (i + 1).toNat from ?_)
      · exact ⟨rfl, by omega, by omega⟩
      · omega
    · refine C.skip ?_
      refine At.blockNormal ?_
      refine At.thenCode ?_
      refine C.region ?_
      refine W.move rfl rfl ?_
      first | refine W.subI rfl rfl (by omega) rfl ?_ | refine W.subW rfl rfl rfl ?_
      refine W.assign rfl rfl ?_
      refine W.nil ?_
      have hk : (i + 1).toNat = i.toNat + 1 := by omega
      have hr := (pow_bit a e i.toNat).2 (by rw [and1_64] at c21; simpa [shrM, show min i.toNat 64 = i.toNat by omega] using c21)
      rw [← hk] at hr
      refine At.thenRound (i - 1) (Sub.cons (rfl) (Sub.cons (rfl) (Sub.cons (look_eq rfl (by rw [show (i - 1 + 1).toNat = i.toNat by omega, ← hr])) (Sub.cons (rfl) (Sub.nil))))) (show w = _ ∧ -1 ≤ (i - 1) ∧ (i - 1) ≤ 63 from ?_) (show ((i - 1) + 1).toNat < (i + 1).toNat from ?_)
      · exact ⟨rfl, by omega, by omega⟩
      · omega
  · refine C.exit ?_
    refine At.thenExit ?_
    refine At.thenExit ?_
    refine At.blockSelf ?_
    refine At.thenCode ?_
    refine C.seq ?_
    refine C.region ?_
    refine W.move rfl rfl ?_
    refine W.assign rfl rfl ?_
    refine W.nil ?_
    refine At.thenCode ?_
    refine C.ret ?_
    refine At.ret1 Try.results62 rfl ?_
    obtain rfl : i = -1 := by omega
    exact ⟨by simp, rfl⟩


end Go.Proofs.Ythiijdbiikljpaa.Modp
