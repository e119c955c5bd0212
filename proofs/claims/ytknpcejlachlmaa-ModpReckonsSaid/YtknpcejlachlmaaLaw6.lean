/- The walks of chapter 6's laws: each returns true for all arguments. -/
import Derived.Test.YtknpcejlachlmaaModp
import Derived.Test.YtknpcejlachlmaaMp
namespace Go.Proofs.Ytknpcejlachlmaa.Law6
open Go Go.RowKit Go.Proofs.Ytknpcejlachlmaa.KW Go.Proofs.Ytknpcejlachlmaa.Modp
set_option linter.unusedVariables false
set_option linter.unusedSimpArgs false
set_option maxRecDepth 100000

theorem alive_ok (w : World) : Ct Try.prog 11 #[] w (fun v w' => v = .bool true ∧ w = w') := by
  refine Ct.enter [] Try.func11 rfl rfl rfl rfl ?_
  refine C.seq ?_
  refine C.region ?_
  refine W.assign rfl rfl ?_
  refine W.nil ?_
  refine At.thenCode ?_
  refine C.seq ?_
  refine C.region ?_
  refine W.call Try.call12 rfl (Mul_ok 1152921504606846976 2 (by decide) (by decide) _) rfl ?_
  rintro v w' ⟨rfl, rfl⟩
  refine W.eqlU (n := 1) rfl rfl rfl ?_
  refine W.eqv (bT (by decide)) ?_
  refine W.move rfl rfl ?_
  refine W.wants rfl rfl rfl rfl ?_
  refine W.call Try.call13 rfl (Add_ok 2305843009213693951 5 (by decide) (by decide) _) rfl ?_
  rintro v w' ⟨rfl, rfl⟩
  refine W.wants rfl rfl rfl rfl ?_
  refine W.eqlU (n := 5) rfl rfl rfl ?_
  refine W.eqv (bT (by decide)) ?_
  refine W.pickT rfl rfl rfl ?_
  refine W.assign rfl rfl ?_
  refine W.nil ?_
  refine At.thenCode ?_
  refine C.ret ?_
  refine At.ret1 Try.results11 rfl ?_
  exact ⟨rfl, rfl⟩

theorem ModpLaws_ok (a b c : Nat) (ha : a < 18446744073709551616) (hb : b < 18446744073709551616) (hc : c < 18446744073709551616) (w : World) :
    Ct Try.prog 4 #[.int .u64 (a : Int), .int .u64 (b : Int), .int .u64 (c : Int)] w (LawOk w) := by
  refine Ct.enter [(0, .int .u64 (a : Int)), (1, .int .u64 (b : Int)), (2, .int .u64 (c : Int))] Try.func4 rfl rfl rfl rfl ?_
  refine C.seq ?_
  refine C.region ?_
  refine W.assign rfl rfl ?_
  refine W.nil ?_
  refine At.thenCode ?_
  refine C.seq ?_
  refine C.region ?_
  refine W.call Try.call11 rfl (Law6.alive_ok _) rfl ?_
  rintro v w' ⟨rfl, rfl⟩
  refine W.assign rfl rfl ?_
  refine W.nil ?_
  refine At.thenCode ?_
  refine C.seq ?_
  refine C.seq ?_
  refine C.region ?_
  refine W.move rfl rfl ?_
  first | refine W.notD rfl rfl ?_ | refine W.notB rfl rfl ?_
  refine W.nil ?_
  refine At.thenCode ?_
  refine C.condF rfl ?_
  refine C.skip ?_
  refine At.thenCode ?_
  refine C.seq ?_
  refine C.seq ?_
  refine C.region ?_
  refine W.move rfl rfl ?_
  refine W.move rfl rfl ?_
  refine W.call Try.call13 rfl (Modp.Add_ok _ _ (by first | omega | decide) (by first | omega | decide) _) rfl ?_
  rintro v w' ⟨rfl, rfl⟩
  refine W.move rfl rfl ?_
  refine W.move rfl rfl ?_
  refine W.call Try.call13 rfl (Modp.Add_ok _ _ (by first | omega | decide) (by first | omega | decide) _) rfl ?_
  rintro v w' ⟨rfl, rfl⟩
  refine W.neqU rfl rfl rfl ?_
  refine W.eqv (bF (by rw [Nat.add_comm a b]; simp)) ?_
  refine W.move rfl rfl ?_
  refine W.wants rfl rfl rfl rfl ?_
  refine W.move rfl rfl ?_
  refine W.wants rfl rfl rfl rfl ?_
  refine W.move rfl rfl ?_
  refine W.wants rfl rfl rfl rfl ?_
  refine W.call Try.call12 rfl (Modp.Mul_ok _ _ (by first | omega | decide) (by first | omega | decide) _) rfl ?_
  rintro v w' ⟨rfl, rfl⟩
  refine W.wants rfl rfl rfl rfl ?_
  refine W.move rfl rfl ?_
  refine W.wants rfl rfl rfl rfl ?_
  refine W.move rfl rfl ?_
  refine W.wants rfl rfl rfl rfl ?_
  refine W.call Try.call12 rfl (Modp.Mul_ok _ _ (by first | omega | decide) (by first | omega | decide) _) rfl ?_
  rintro v w' ⟨rfl, rfl⟩
  refine W.wants rfl rfl rfl rfl ?_
  refine W.neqU rfl rfl rfl ?_
  refine W.eqv (bF (by rw [Nat.mul_comm a b]; simp)) ?_
  refine W.pickF rfl rfl rfl ?_
  refine W.move rfl rfl ?_
  refine W.wants rfl rfl rfl rfl ?_
  refine W.move rfl rfl ?_
  refine W.wants rfl rfl rfl rfl ?_
  refine W.move rfl rfl ?_
  refine W.wants rfl rfl rfl rfl ?_
  refine W.call Try.call13 rfl (Modp.Add_ok _ _ (by first | omega | decide) (by first | omega | decide) _) rfl ?_
  rintro v w' ⟨rfl, rfl⟩
  refine W.wants rfl rfl rfl rfl ?_
  refine W.move rfl rfl ?_
  refine W.wants rfl rfl rfl rfl ?_
  refine W.call Try.call13 rfl (Modp.Add_ok _ _ (by first | omega | decide) (by first | omega | decide) _) rfl ?_
  rintro v w' ⟨rfl, rfl⟩
  refine W.wants rfl rfl rfl rfl ?_
  refine W.move rfl rfl ?_
  refine W.wants rfl rfl rfl rfl ?_
  refine W.move rfl rfl ?_
  refine W.wants rfl rfl rfl rfl ?_
  refine W.move rfl rfl ?_
  refine W.wants rfl rfl rfl rfl ?_
  refine W.call Try.call13 rfl (Modp.Add_ok _ _ (by first | omega | decide) (by first | omega | decide) _) rfl ?_
  rintro v w' ⟨rfl, rfl⟩
  refine W.wants rfl rfl rfl rfl ?_
  refine W.call Try.call13 rfl (Modp.Add_ok _ _ (by first | omega | decide) (by first | omega | decide) _) rfl ?_
  rintro v w' ⟨rfl, rfl⟩
  refine W.wants rfl rfl rfl rfl ?_
  refine W.neqU rfl rfl rfl ?_
  refine W.eqv (bF (by rw [Nat.mod_add_mod, Nat.add_mod_mod, Nat.add_assoc]; simp)) ?_
  refine W.pickF rfl rfl rfl ?_
  refine W.move rfl rfl ?_
  refine W.wants rfl rfl rfl rfl ?_
  refine W.move rfl rfl ?_
  refine W.wants rfl rfl rfl rfl ?_
  refine W.move rfl rfl ?_
  refine W.wants rfl rfl rfl rfl ?_
  refine W.call Try.call12 rfl (Modp.Mul_ok _ _ (by first | omega | decide) (by first | omega | decide) _) rfl ?_
  rintro v w' ⟨rfl, rfl⟩
  refine W.wants rfl rfl rfl rfl ?_
  refine W.move rfl rfl ?_
  refine W.wants rfl rfl rfl rfl ?_
  refine W.call Try.call12 rfl (Modp.Mul_ok _ _ (by first | omega | decide) (by first | omega | decide) _) rfl ?_
  rintro v w' ⟨rfl, rfl⟩
  refine W.wants rfl rfl rfl rfl ?_
  refine W.move rfl rfl ?_
  refine W.wants rfl rfl rfl rfl ?_
  refine W.move rfl rfl ?_
  refine W.wants rfl rfl rfl rfl ?_
  refine W.move rfl rfl ?_
  refine W.wants rfl rfl rfl rfl ?_
  refine W.call Try.call12 rfl (Modp.Mul_ok _ _ (by first | omega | decide) (by first | omega | decide) _) rfl ?_
  rintro v w' ⟨rfl, rfl⟩
  refine W.wants rfl rfl rfl rfl ?_
  refine W.call Try.call12 rfl (Modp.Mul_ok _ _ (by first | omega | decide) (by first | omega | decide) _) rfl ?_
  rintro v w' ⟨rfl, rfl⟩
  refine W.wants rfl rfl rfl rfl ?_
  refine W.neqU rfl rfl rfl ?_
  refine W.eqv (bF (by rw [Nat.mod_mul_mod, Nat.mul_mod_mod, Nat.mul_assoc]; simp)) ?_
  refine W.pickF rfl rfl rfl ?_
  refine W.nil ?_
  refine At.thenCode ?_
  refine C.condF rfl ?_
  refine C.skip ?_
  refine At.thenCode ?_
  refine C.seq ?_
  refine C.region ?_
  refine W.move rfl rfl ?_
  refine W.move rfl rfl ?_
  refine W.move rfl rfl ?_
  refine W.call Try.call13 rfl (Modp.Add_ok _ _ (by first | omega | decide) (by first | omega | decide) _) rfl ?_
  rintro v w' ⟨rfl, rfl⟩
  refine W.call Try.call12 rfl (Modp.Mul_ok _ _ (by first | omega | decide) (by first | omega | decide) _) rfl ?_
  rintro v w' ⟨rfl, rfl⟩
  refine W.move rfl rfl ?_
  refine W.move rfl rfl ?_
  refine W.call Try.call12 rfl (Modp.Mul_ok _ _ (by first | omega | decide) (by first | omega | decide) _) rfl ?_
  rintro v w' ⟨rfl, rfl⟩
  refine W.move rfl rfl ?_
  refine W.move rfl rfl ?_
  refine W.call Try.call12 rfl (Modp.Mul_ok _ _ (by first | omega | decide) (by first | omega | decide) _) rfl ?_
  rintro v w' ⟨rfl, rfl⟩
  refine W.call Try.call13 rfl (Modp.Add_ok _ _ (by first | omega | decide) (by first | omega | decide) _) rfl ?_
  rintro v w' ⟨rfl, rfl⟩
  refine W.eqlU rfl rfl rfl ?_
  refine W.eqv (bT (by rw [Nat.mul_mod_mod, Nat.mod_add_mod, Nat.add_mod_mod, Nat.mul_add])) ?_
  refine W.move rfl rfl ?_
  refine W.wants rfl rfl rfl rfl ?_
  refine W.move rfl rfl ?_
  refine W.wants rfl rfl rfl rfl ?_
  refine W.move rfl rfl ?_
  refine W.wants rfl rfl rfl rfl ?_
  refine W.call Try.call13 rfl (Modp.Add_ok _ _ (by first | omega | decide) (by first | omega | decide) _) rfl ?_
  rintro v w' ⟨rfl, rfl⟩
  refine W.wants rfl rfl rfl rfl ?_
  refine W.move rfl rfl ?_
  refine W.wants rfl rfl rfl rfl ?_
  refine W.call Try.call14 rfl (Modp.Sub_ok _ _ (by first | omega | decide) (by first | omega | decide) _) rfl ?_
  rintro v w' ⟨rfl, rfl⟩
  refine W.wants rfl rfl rfl rfl ?_
  refine W.move rfl rfl ?_
  refine W.wants rfl rfl rfl rfl ?_
  refine W.call Try.call15 rfl (Modp.Reduce_ok _ (by first | omega | exact addM_lt (by decide) _ _) _) rfl ?_
  rintro v w' ⟨rfl, rfl⟩
  refine W.wants rfl rfl rfl rfl ?_
  refine W.eqlU rfl rfl rfl ?_
  refine W.eqv (bT (by omega)) ?_
  refine W.pickT rfl rfl rfl ?_
  refine W.move rfl rfl ?_
  refine W.wants rfl rfl rfl rfl ?_
  refine W.move rfl rfl ?_
  refine W.wants rfl rfl rfl rfl ?_
  refine W.move rfl rfl ?_
  refine W.wants rfl rfl rfl rfl ?_
  refine W.call Try.call14 rfl (Modp.Sub_ok _ _ (by first | omega | decide) (by first | omega | decide) _) rfl ?_
  rintro v w' ⟨rfl, rfl⟩
  refine W.wants rfl rfl rfl rfl ?_
  refine W.move rfl rfl ?_
  refine W.wants rfl rfl rfl rfl ?_
  refine W.call Try.call13 rfl (Modp.Add_ok _ _ (by first | omega | decide) (by first | omega | decide) _) rfl ?_
  rintro v w' ⟨rfl, rfl⟩
  refine W.wants rfl rfl rfl rfl ?_
  refine W.move rfl rfl ?_
  refine W.wants rfl rfl rfl rfl ?_
  refine W.call Try.call15 rfl (Modp.Reduce_ok _ (by first | omega | exact addM_lt (by decide) _ _) _) rfl ?_
  rintro v w' ⟨rfl, rfl⟩
  refine W.wants rfl rfl rfl rfl ?_
  refine W.eqlU rfl rfl rfl ?_
  refine W.eqv (bT (by omega)) ?_
  refine W.pickT rfl rfl rfl ?_
  refine W.assign rfl rfl ?_
  refine W.nil ?_
  refine At.thenCode ?_
  refine C.ret ?_
  refine At.ret1 Try.results4 rfl ?_
  exact ⟨rfl, Below.refl _ _⟩

/-- A product by a power of 2: the bits turned round. -/
theorem turned (x k : Nat) (hx : x < 2305843009213693951) (hk : k ≤ 60) :
    shlM 18446744073709551616 64 1 k = 2 ^ k ∧
    x * 2 ^ k % 2305843009213693951 = iorM 18446744073709551616 (landM 18446744073709551616 (shlM 18446744073709551616 64 x k) 2305843009213693951) (shrM 64 x (subM 18446744073709551616 61 k)) % 2305843009213693951 := by
  have hp : (2 : Nat) ^ k ≤ 2 ^ 60 := Nat.pow_le_pow_right (by decide) hk
  have h60 : (2 : Nat) ^ 60 = 1152921504606846976 := by decide
  have hpos : 0 < (2 : Nat) ^ k := Nat.two_pow_pos k
  have hs : subM 18446744073709551616 61 k = 61 - k := sub64 (by omega) (by decide)
  have hlt : x / 2 ^ (61 - k) < 2 ^ k ∧ (2 : Nat) ^ (61 - k) * 2 ^ k = 2305843009213693952 := by
    have hq : (2 : Nat) ^ (61 - k) * 2 ^ k = 2305843009213693952 := by rw [← Nat.pow_add, show 61 - k + k = 61 by omega]
    exact ⟨by rw [Nat.div_lt_iff_lt_mul (Nat.two_pow_pos _), Nat.mul_comm, hq]; omega, hq⟩
  have hq : (2 : Nat) ^ (61 - k) * 2 ^ k = 2305843009213693952 := by rw [← Nat.pow_add, show 61 - k + k = 61 by omega]
  refine ⟨by unfold shlM; rw [Nat.min_eq_left (by omega), Nat.one_mul, Nat.mod_eq_of_lt (by omega)], ?_⟩
  rw [hs, and61, shlM, shrM, Nat.min_eq_left (by omega), Nat.min_eq_left (show 61 - k ≤ 64 by omega)]
  have h1 : x * 2 ^ k % 18446744073709551616 % 2305843009213693952 = (x % 2 ^ (61 - k)) * 2 ^ k := by
    rw [Nat.mod_mod_of_dvd _ (by decide), ← hq, Nat.mul_mod_mul_right]
  rw [h1]
  have h2 : x / 2 ^ (61 - k) < 2 ^ k := by
    rw [Nat.div_lt_iff_lt_mul (Nat.two_pow_pos _), Nat.mul_comm, hq]; omega
  rw [iorM, or_low _ _ _ h2]
  have h3 : x % 2 ^ (61 - k) < 2 ^ (61 - k) := Nat.mod_lt _ (Nat.two_pow_pos _)
  have h4 := Nat.div_add_mod x (2 ^ (61 - k))
  have h5 : x * 2 ^ k = 2305843009213693952 * (x / 2 ^ (61 - k)) + (x % 2 ^ (61 - k)) * 2 ^ k := by
    conv => lhs; rw [← h4]
    rw [Nat.add_mul, ← hq]
    congr 1
    rw [Nat.mul_right_comm]
  have h6 : (x % 2 ^ (61 - k)) * 2 ^ k < 2305843009213693952 := by
    rw [← hq]; exact Nat.mul_lt_mul_of_pos_right h3 hpos
  rw [h5]
  have h7 := hlt.1
  generalize (x % 2 ^ (61 - k)) * 2 ^ k = lo at h6 ⊢
  generalize x / 2 ^ (61 - k) = hi at h7 ⊢
  clear h1 h2 h3 h4 h5 hq
  rw [Nat.mod_eq_of_lt (show lo + hi < 18446744073709551616 by omega)]
  omega

theorem ModpShifts_ok (a : Nat) (n : Int) (ha : a < 18446744073709551616) (hn : -9223372036854775808 ≤ n ∧ n ≤ 9223372036854775807) (w : World) :
    Ct Try.prog 3 #[.int .u64 (a : Int), .int .i64 n] w (LawOk w) := by
  refine Ct.enter [(0, .int .u64 (a : Int)), (1, .int .i64 n)] Try.func3 rfl rfl rfl rfl ?_
  refine C.seq ?_
  refine C.region ?_
  refine W.assign rfl rfl ?_
  refine W.nil ?_
  refine At.thenCode ?_
  refine C.seq ?_
  refine C.region ?_
  refine W.call Try.call11 rfl (Law6.alive_ok _) rfl ?_
  rintro v w' ⟨rfl, rfl⟩
  refine W.assign rfl rfl ?_
  refine W.nil ?_
  refine At.thenCode ?_
  refine C.seq ?_
  refine C.seq ?_
  refine C.region ?_
  refine W.move rfl rfl ?_
  first | refine W.notD rfl rfl ?_ | refine W.notB rfl rfl ?_
  refine W.move rfl rfl ?_
  refine W.wants rfl rfl rfl rfl ?_
  refine W.move rfl rfl ?_
  refine W.wants rfl rfl rfl rfl ?_
  refine W.lssI rfl rfl rfl ?_
  refine W.pickF rfl rfl rfl ?_
  refine W.move rfl rfl ?_
  refine W.splitD (fun g15 => ?_) (fun g15 => ?_)
  · refine W.skips rfl rfl rfl rfl rfl rfl ?_
    refine W.skips rfl rfl rfl rfl rfl rfl ?_
    refine W.pickT rfl rfl rfl ?_
    refine W.nil ?_
    refine At.thenCode ?_
    refine C.condT rfl ?_
    refine C.seq ?_
    refine C.region ?_
    refine W.move rfl rfl ?_
    refine W.assign rfl rfl ?_
    refine W.nil ?_
    refine At.thenCode ?_
    refine C.ret ?_
    refine At.thenRet ?_
    refine At.ret1 Try.results3 rfl ?_
    exact ⟨rfl, Below.refl _ _⟩
  · refine W.wants rfl rfl rfl rfl ?_
    refine W.move rfl rfl ?_
    refine W.wants rfl rfl rfl rfl ?_
    refine W.gtrI rfl rfl rfl ?_
    refine W.pickF rfl rfl rfl ?_
    refine W.nil ?_
    refine At.thenCode ?_
    first | refine C.condD rfl (fun c18 => ?_) (fun c18 => ?_) | refine C.cond rfl (fun c18 => ?_) (fun c18 => ?_)
    · refine C.seq ?_
      refine C.region ?_
      refine W.move rfl rfl ?_
      refine W.assign rfl rfl ?_
      refine W.nil ?_
      refine At.thenCode ?_
      refine C.ret ?_
      refine At.thenRet ?_
      refine At.ret1 Try.results3 rfl ?_
      exact ⟨rfl, Below.refl _ _⟩
    · refine C.skip ?_
      refine At.thenCode ?_
      refine C.seq ?_
      refine C.region ?_
      refine W.move rfl rfl ?_
      refine W.remU (n := 2305843009213693951) rfl rfl (by omega) rfl ?_
      refine W.assign rfl rfl ?_
      refine W.nil ?_
      refine At.thenCode ?_
      refine C.seq ?_
      refine C.region ?_
      refine W.move rfl rfl ?_
      refine W.convIN (M := 18446744073709551616) rfl Try.underlying3 Try.underlying24 rfl rfl (by omega) rfl ?_
      have hk : n.toNat ≤ 60 := by omega
      obtain ⟨hs1, hs2⟩ := turned (a % 2305843009213693951) n.toNat (mod_lt_P a) hk
      have hp : (2 : Nat) ^ n.toNat ≤ 2 ^ 60 := Nat.pow_le_pow_right (by decide) hk
      have h60 : (2 : Nat) ^ 60 = 1152921504606846976 := by decide
      refine W.assign rfl rfl ?_
      refine W.nil ?_
      refine At.thenCode ?_
      refine C.seq ?_
      refine C.region ?_
      refine W.move rfl rfl ?_
      refine W.move rfl rfl ?_
      refine W.shlU (M := 18446744073709551616) (B := 64) rfl rfl rfl rfl rfl rfl ?_
      refine W.andU (M := 18446744073709551616) (n := 2305843009213693951) rfl rfl rfl rfl rfl ?_
      refine W.move rfl rfl ?_
      refine W.move rfl rfl ?_
      refine W.subU (M := 18446744073709551616) (m := 61) rfl rfl rfl rfl rfl ?_
      refine W.shrU (B := 64) rfl rfl rfl rfl ?_
      refine W.orU (M := 18446744073709551616) rfl rfl rfl rfl rfl ?_
      refine W.assign rfl rfl ?_
      refine W.nil ?_
      refine At.thenCode ?_
      refine C.seq ?_
      refine C.seq ?_
      refine C.region ?_
      refine W.move rfl rfl ?_
      refine W.eqlI rfl rfl rfl ?_
      refine W.nil ?_
      refine At.thenCode ?_
      first | refine C.condD rfl (fun c34 => ?_) (fun c34 => ?_) | refine C.cond rfl (fun c34 => ?_) (fun c34 => ?_)
      · refine C.region ?_
        refine W.move rfl rfl ?_
        refine W.assign rfl rfl ?_
        refine W.nil ?_
        refine At.thenCode ?_
        refine C.seq ?_
        refine C.region ?_
        refine W.move rfl rfl ?_
        refine W.move rfl rfl ?_
        refine W.shlU (M := 18446744073709551616) (B := 64) (m := 1) rfl rfl rfl rfl rfl rfl ?_
        rw [hs1]
        refine W.call Try.call12 rfl (Modp.Mul_ok _ _ (by first | omega | decide) (by first | omega | decide) _) rfl ?_
        rintro v w' ⟨rfl, rfl⟩
        refine W.move rfl rfl ?_
        refine W.remU (n := 2305843009213693951) rfl rfl (by omega) rfl ?_
        refine W.eqlU rfl rfl rfl ?_
        refine W.assign rfl rfl ?_
        refine W.nil ?_
        refine At.thenCode ?_
        refine C.ret ?_
        refine At.ret1 Try.results3 rfl ?_
        refine ⟨bT ?_, Below.refl _ _⟩
        subst c34
        simp
      · refine C.skip ?_
        refine At.thenCode ?_
        refine C.seq ?_
        refine C.region ?_
        refine W.move rfl rfl ?_
        refine W.move rfl rfl ?_
        refine W.shlU (M := 18446744073709551616) (B := 64) (m := 1) rfl rfl rfl rfl rfl rfl ?_
        rw [hs1]
        refine W.call Try.call12 rfl (Modp.Mul_ok _ _ (by first | omega | decide) (by first | omega | decide) _) rfl ?_
        rintro v w' ⟨rfl, rfl⟩
        refine W.move rfl rfl ?_
        refine W.remU (n := 2305843009213693951) rfl rfl (by omega) rfl ?_
        refine W.eqlU rfl rfl rfl ?_
        refine W.assign rfl rfl ?_
        refine W.nil ?_
        refine At.thenCode ?_
        refine C.ret ?_
        refine At.ret1 Try.results3 rfl ?_
        refine ⟨bT ?_, Below.refl _ _⟩
        rw [← hs2, Nat.mod_mul_mod]

theorem ModpPowers_ok (a e f : Nat) (ha : a < 18446744073709551616) (he : e < 18446744073709551616) (hf : f < 18446744073709551616) (w : World) :
    Ct Try.prog 5 #[.int .u64 (a : Int), .int .u64 (e : Int), .int .u64 (f : Int)] w (LawOk w) := by
  refine Ct.enter [(0, .int .u64 (a : Int)), (1, .int .u64 (e : Int)), (2, .int .u64 (f : Int))] Try.func5 rfl rfl rfl rfl ?_
  have p1 := powP_lt a e
  have p2 := powP_lt a f
  have p3 := powP_lt a 2305843009213693949
  refine C.seq ?_
  refine C.region ?_
  refine W.assign rfl rfl ?_
  refine W.nil ?_
  refine At.thenCode ?_
  refine C.seq ?_
  refine C.region ?_
  refine W.call Try.call11 rfl (Law6.alive_ok _) rfl ?_
  rintro v w' ⟨rfl, rfl⟩
  refine W.assign rfl rfl ?_
  refine W.nil ?_
  refine At.thenCode ?_
  refine C.seq ?_
  refine C.seq ?_
  refine C.region ?_
  refine W.move rfl rfl ?_
  first | refine W.notD rfl rfl ?_ | refine W.notB rfl rfl ?_
  refine W.move rfl rfl ?_
  refine W.wants rfl rfl rfl rfl ?_
  refine W.move rfl rfl ?_
  refine W.wants rfl rfl rfl rfl ?_
  refine W.gtrU (n := 4611686018427387904) rfl rfl rfl ?_
  refine W.pickF rfl rfl rfl ?_
  refine W.move rfl rfl ?_
  refine W.splitD (fun g15 => ?_) (fun g15 => ?_)
  · refine W.skips rfl rfl rfl rfl rfl rfl ?_
    refine W.skips rfl rfl rfl rfl rfl rfl ?_
    refine W.pickT rfl rfl rfl ?_
    refine W.nil ?_
    refine At.thenCode ?_
    refine C.condT rfl ?_
    refine C.seq ?_
    refine C.region ?_
    refine W.move rfl rfl ?_
    refine W.assign rfl rfl ?_
    refine W.nil ?_
    refine At.thenCode ?_
    refine C.ret ?_
    refine At.thenRet ?_
    refine At.ret1 Try.results5 rfl ?_
    exact ⟨rfl, Below.refl _ _⟩
  · refine W.wants rfl rfl rfl rfl ?_
    refine W.move rfl rfl ?_
    refine W.wants rfl rfl rfl rfl ?_
    refine W.gtrU (n := 4611686018427387904) rfl rfl rfl ?_
    refine W.pickF rfl rfl rfl ?_
    refine W.nil ?_
    refine At.thenCode ?_
    first | refine C.condD rfl (fun c18 => ?_) (fun c18 => ?_) | refine C.cond rfl (fun c18 => ?_) (fun c18 => ?_)
    · refine C.seq ?_
      refine C.region ?_
      refine W.move rfl rfl ?_
      refine W.assign rfl rfl ?_
      refine W.nil ?_
      refine At.thenCode ?_
      refine C.ret ?_
      refine At.thenRet ?_
      refine At.ret1 Try.results5 rfl ?_
      exact ⟨rfl, Below.refl _ _⟩
    · refine C.skip ?_
      refine At.thenCode ?_
      refine C.seq ?_
      refine C.seq ?_
      refine C.region ?_
      refine W.move rfl rfl ?_
      refine W.move rfl rfl ?_
      refine W.call Try.call16 rfl (Modp.Pow_ok _ _ (by first | omega | decide) (by first | omega | decide) _) rfl ?_
      rintro v w' ⟨rfl, rfl⟩
      refine W.move rfl rfl ?_
      refine W.move rfl rfl ?_
      refine W.call Try.call16 rfl (Modp.Pow_ok _ _ (by first | omega | decide) (by first | omega | decide) _) rfl ?_
      rintro v w' ⟨rfl, rfl⟩
      refine W.call Try.call12 rfl (Modp.Mul_ok _ _ (by first | omega | decide) (by first | omega | decide) _) rfl ?_
      rintro v w' ⟨rfl, rfl⟩
      refine W.move rfl rfl ?_
      refine W.move rfl rfl ?_
      refine W.move rfl rfl ?_
      refine W.addU (M := 18446744073709551616) rfl rfl rfl rfl rfl ?_
      rw [add64 (by omega)]
      refine W.call Try.call16 rfl (Modp.Pow_ok _ _ (by first | omega | decide) (by first | omega | decide) _) rfl ?_
      rintro v w' ⟨rfl, rfl⟩
      refine W.neqU rfl rfl rfl ?_
      refine W.eqv (bF (by rw [powP_add]; simp)) ?_
      refine W.move rfl rfl ?_
      refine W.wants rfl rfl rfl rfl ?_
      refine W.move rfl rfl ?_
      refine W.wants rfl rfl rfl rfl ?_
      refine W.call Try.call16 rfl (Modp.Pow_ok _ _ (by first | omega | decide) (by first | omega | decide) _) rfl ?_
      rintro v w' ⟨rfl, rfl⟩
      refine W.wants rfl rfl rfl rfl ?_
      refine W.neqU (n := 1) rfl rfl rfl ?_
      refine W.eqv (bF (by rw [powP_zero]; simp)) ?_
      refine W.pickF rfl rfl rfl ?_
      refine W.move rfl rfl ?_
      refine W.wants rfl rfl rfl rfl ?_
      refine W.move rfl rfl ?_
      refine W.wants rfl rfl rfl rfl ?_
      refine W.call Try.call16 rfl (Modp.Pow_ok _ _ (by first | omega | decide) (by first | omega | decide) _) rfl ?_
      rintro v w' ⟨rfl, rfl⟩
      refine W.wants rfl rfl rfl rfl ?_
      refine W.move rfl rfl ?_
      refine W.wants rfl rfl rfl rfl ?_
      refine W.call Try.call15 rfl (Modp.Reduce_ok _ (by first | omega | exact addM_lt (by decide) _ _) _) rfl ?_
      rintro v w' ⟨rfl, rfl⟩
      refine W.wants rfl rfl rfl rfl ?_
      refine W.neqU rfl rfl rfl ?_
      refine W.eqv (bF (by rw [powP_one]; simp)) ?_
      refine W.pickF rfl rfl rfl ?_
      refine W.nil ?_
      refine At.thenCode ?_
      refine C.condF rfl ?_
      refine C.skip ?_
      refine At.thenCode ?_
      refine C.seq ?_
      refine C.seq ?_
      refine C.region ?_
      refine W.move rfl rfl ?_
      refine W.call Try.call15 rfl (Modp.Reduce_ok _ (by first | omega | exact addM_lt (by decide) _ _) _) rfl ?_
      rintro v w' ⟨rfl, rfl⟩
      refine W.eqlU (n := 0) rfl rfl rfl ?_
      refine W.nil ?_
      refine At.thenCode ?_
      first | refine C.condD rfl (fun c47 => ?_) (fun c47 => ?_) | refine C.cond rfl (fun c47 => ?_) (fun c47 => ?_)
      · refine C.seq ?_
        refine C.region ?_
        refine W.move rfl rfl ?_
        refine W.call Try.call17 rfl (Modp.Inv_ok _ (by first | omega | decide) _) rfl ?_
        rintro v w' ⟨rfl, rfl⟩
        refine W.eqlU (n := 0) rfl rfl rfl ?_
        refine W.eqv (bT (powP_z c47 (by decide))) ?_
        refine W.assign rfl rfl ?_
        refine W.nil ?_
        refine At.thenCode ?_
        refine C.ret ?_
        refine At.thenRet ?_
        refine At.ret1 Try.results5 rfl ?_
        exact ⟨rfl, Below.refl _ _⟩
      · refine C.skip ?_
        refine At.thenCode ?_
        refine C.seq ?_
        refine C.region ?_
        refine W.move rfl rfl ?_
        refine W.move rfl rfl ?_
        refine W.call Try.call17 rfl (Modp.Inv_ok _ (by first | omega | decide) _) rfl ?_
        rintro v w' ⟨rfl, rfl⟩
        refine W.call Try.call12 rfl (Modp.Mul_ok _ _ (by first | omega | decide) (by first | omega | decide) _) rfl ?_
        rintro v w' ⟨rfl, rfl⟩
        refine W.eqlU (n := 1) rfl rfl rfl ?_
        refine W.eqv (bT (by rw [show a * powP a 2305843009213693949 % 2305843009213693951 = powP a 2305843009213693950 by rw [show 2305843009213693950 = 1 + 2305843009213693949 from rfl, powP_add, powP_one, Nat.mod_mul_mod]]; exact fermat c47)) ?_
        refine W.move rfl rfl ?_
        refine W.wants rfl rfl rfl rfl ?_
        refine W.move rfl rfl ?_
        refine W.wants rfl rfl rfl rfl ?_
        refine W.call Try.call17 rfl (Modp.Inv_ok _ (by first | omega | decide) _) rfl ?_
        rintro v w' ⟨rfl, rfl⟩
        refine W.wants rfl rfl rfl rfl ?_
        refine W.call Try.call17 rfl (Modp.Inv_ok _ (by first | omega | decide) _) rfl ?_
        rintro v w' ⟨rfl, rfl⟩
        refine W.wants rfl rfl rfl rfl ?_
        refine W.move rfl rfl ?_
        refine W.wants rfl rfl rfl rfl ?_
        refine W.call Try.call15 rfl (Modp.Reduce_ok _ (by first | omega | exact addM_lt (by decide) _ _) _) rfl ?_
        rintro v w' ⟨rfl, rfl⟩
        refine W.wants rfl rfl rfl rfl ?_
        refine W.eqlU rfl rfl rfl ?_
        refine W.eqv (bT (by rw [powP_mul, show 2305843009213693949 * 2305843009213693949 = 2305843009213693950 * 2305843009213693948 + 1 from rfl, powP_add, fermat_mul c47, powP_one, Nat.one_mul, Nat.mod_mod])) ?_
        refine W.pickT rfl rfl rfl ?_
        refine W.move rfl rfl ?_
        refine W.wants rfl rfl rfl rfl ?_
        refine W.move rfl rfl ?_
        refine W.wants rfl rfl rfl rfl ?_
        refine W.call Try.call16 rfl (Modp.Pow_ok _ _ (by first | omega | decide) (by first | omega | decide) _) rfl ?_
        rintro v w' ⟨rfl, rfl⟩
        refine W.wants rfl rfl rfl rfl ?_
        refine W.eqlU (n := 1) rfl rfl rfl ?_
        refine W.eqv (bT (fermat c47)) ?_
        refine W.pickT rfl rfl rfl ?_
        refine W.assign rfl rfl ?_
        refine W.nil ?_
        refine At.thenCode ?_
        refine C.ret ?_
        refine At.ret1 Try.results5 rfl ?_
        exact ⟨rfl, Below.refl _ _⟩

theorem sq_bit (x i : Nat) :
    (x / 2 ^ i % 2 = 1 → (((x * (x / 2 ^ (i + 1)) % 2305843009213693951) + (x * (x / 2 ^ (i + 1)) % 2305843009213693951)) % 2305843009213693951 + x) % 2305843009213693951 = x * (x / 2 ^ i) % 2305843009213693951) ∧
    (¬ x / 2 ^ i % 2 = 1 → ((x * (x / 2 ^ (i + 1)) % 2305843009213693951) + (x * (x / 2 ^ (i + 1)) % 2305843009213693951)) % 2305843009213693951 = x * (x / 2 ^ i) % 2305843009213693951) := by
  rw [Nat.pow_succ, ← Nat.div_div_eq_div_mul]
  generalize x / 2 ^ i = q
  rw [← Nat.add_mod, ← Nat.mul_add]
  refine ⟨fun h => ?_, fun h => ?_⟩
  · rw [Nat.mod_add_mod]
    have hq : q = (q / 2 + q / 2) + 1 := by omega
    conv => rhs; rw [hq, Nat.mul_add, Nat.mul_one]
  · have hq : q = q / 2 + q / 2 := by omega
    rw [← hq]

theorem neg_sq (x : Nat) (hx : x < 2305843009213693951) :
    ((0 % 2305843009213693951 + 2305843009213693951 - x) % 2305843009213693951) * ((0 % 2305843009213693951 + 2305843009213693951 - x) % 2305843009213693951) % 2305843009213693951 = x * x % 2305843009213693951 := by
  rw [← Nat.mul_mod, show 0 % 2305843009213693951 + 2305843009213693951 - x = 2305843009213693951 - x by omega]
  have h : (2305843009213693951 - x) * (2305843009213693951 - x) + 2305843009213693951 * (2 * x) = x * x + 2305843009213693951 * 2305843009213693951 := by
    have e : ((2305843009213693951 - x : Nat) : Int) = 2305843009213693951 - (x : Int) := by omega
    apply Int.ofNat.inj
    show (((2305843009213693951 - x) * (2305843009213693951 - x) + 2305843009213693951 * (2 * x) : Nat) : Int) = ((x * x + 2305843009213693951 * 2305843009213693951 : Nat) : Int)
    rw [Int.natCast_add, Int.natCast_mul, e, Int.natCast_mul, Int.natCast_mul, Int.natCast_add, Int.natCast_mul]
    simp only [Int.sub_mul, Int.mul_sub]
    omega
  have h1 : ((2305843009213693951 - x) * (2305843009213693951 - x) + 2305843009213693951 * (2 * x)) % 2305843009213693951 = (2305843009213693951 - x) * (2305843009213693951 - x) % 2305843009213693951 := Nat.add_mul_mod_self_left _ _ _
  rw [← h1, h, Nat.add_mul_mod_self_left]

theorem ModpSquares_ok (a : Nat) (ha : a < 18446744073709551616) (w : World) :
    Ct Try.prog 6 #[.int .u64 (a : Int)] w (LawOk w) := by
  refine Ct.enter [(0, .int .u64 (a : Int))] Try.func6 rfl rfl rfl rfl ?_
  obtain ⟨x, hx⟩ : ∃ x, x = a % 2305843009213693951 := ⟨_, rfl⟩
  have hxl : x < 2305843009213693951 := by rw [hx]; exact mod_lt_P a
  refine C.seq ?_
  refine C.region ?_
  refine W.assign rfl rfl ?_
  refine W.nil ?_
  refine At.thenCode ?_
  refine C.seq ?_
  refine C.region ?_
  refine W.call Try.call11 rfl (Law6.alive_ok _) rfl ?_
  rintro v w' ⟨rfl, rfl⟩
  refine W.assign rfl rfl ?_
  refine W.nil ?_
  refine At.thenCode ?_
  refine C.seq ?_
  refine C.seq ?_
  refine C.region ?_
  refine W.move rfl rfl ?_
  first | refine W.notD rfl rfl ?_ | refine W.notB rfl rfl ?_
  refine W.nil ?_
  refine At.thenCode ?_
  refine C.condF rfl ?_
  refine C.skip ?_
  refine At.thenCode ?_
  refine C.seq ?_
  refine C.region ?_
  refine W.move rfl rfl ?_
  refine W.remU (n := 2305843009213693951) rfl rfl (by omega) rfl ?_
  rw [← hx]
  refine W.assign rfl rfl ?_
  refine W.nil ?_
  refine At.thenCode ?_
  refine C.seq ?_
  refine C.region ?_
  refine W.assign rfl rfl ?_
  refine W.nil ?_
  refine At.thenCode ?_
  refine C.seq ?_
  refine C.seq ?_
  refine C.region ?_
  refine W.assign rfl rfl ?_
  refine W.nil ?_
  refine At.thenCode ?_
  refine C.block ?_
  refine C.loop (X := Int × Nat) (fun x_ => [(0, .int .u64 (a : Int)), (4, .int .u64 (x : Int)), (5, .int .u64 (x_.2 : Int)), (6, .int .i64 x_.1)]) (fun x_ w1 => w = w1 ∧ -1 ≤ x_.1 ∧ x_.1 ≤ 60 ∧ x_.2 = x * (x / 2 ^ (x_.1 + 1).toNat) % 2305843009213693951) (fun x_ => (x_.1 + 1).toNat) ((60 : Int), 0) (Sub.cons (rfl) (Sub.cons (rfl) (Sub.cons (rfl) (Sub.cons (rfl) (Sub.nil))))) ?start1 ?_
  case start1 =>
    show w = _ ∧ -1 ≤ ((60 : Int)) ∧ ((60 : Int)) ≤ 60 ∧ (0) = x * (x / 2 ^ (((60 : Int)) + 1).toNat) % 2305843009213693951
    exact ⟨rfl, by decide, by decide, by rw [show x / 2 ^ ((60 : Int) + (1 : Int)).toNat = 0 from Nat.div_eq_of_lt (Nat.lt_of_lt_of_le hxl (by decide)), Nat.mul_zero]⟩
  rintro ⟨i, s⟩ w1 hI_
  replace hI_ : w = w1 ∧ -1 ≤ i ∧ i ≤ 60 ∧ s = x * (x / 2 ^ (i + 1).toNat) % 2305843009213693951 := hI_
  obtain ⟨rfl, hi1, hi2, hs⟩ := hI_
  refine C.weaken (l' := [(0, .int .u64 (a : Int)), (4, .int .u64 (x : Int)), (5, .int .u64 (s : Int)), (6, .int .i64 i)]) (Sub.cons (rfl) (Sub.cons (rfl) (Sub.cons (rfl) (Sub.cons (rfl) (Sub.nil))))) ?_
  have hsl : s < 2305843009213693951 := by rw [hs]; exact mod_lt_P _
  refine C.seq ?_
  refine C.seq ?_
  refine C.region ?_
  refine W.move rfl rfl ?_
  refine W.geqI rfl rfl rfl ?_
  refine W.nil ?_
  refine At.thenCode ?_
  first | refine C.condD rfl (fun c14 => ?_) (fun c14 => ?_) | refine C.cond rfl (fun c14 => ?_) (fun c14 => ?_)
  · refine C.skip ?_
    refine At.thenCode ?_
    refine C.seq ?_
    refine C.block ?_
    refine C.seq ?_
    refine C.region ?_
    refine W.move rfl rfl ?_
    refine W.move rfl rfl ?_
    refine W.addU (M := 18446744073709551616) rfl rfl rfl rfl rfl ?_
    rw [add64 (by omega)]
    refine W.remU (n := 2305843009213693951) rfl rfl (by omega) rfl ?_
    refine W.assign rfl rfl ?_
    refine W.nil ?_
    refine At.thenCode ?_
    refine C.seq ?_
    refine C.region ?_
    refine W.move rfl rfl ?_
    refine W.move rfl rfl ?_
    first | refine W.convIN (M := 18446744073709551616) rfl Try.underlying3 Try.underlying24 rfl rfl (by omega) rfl ?_ | refine W.convIU (M := 18446744073709551616) rfl Try.underlying3 Try.underlying24 rfl rfl rfl ?_
    refine W.shrU (B := 64) rfl rfl rfl rfl ?_
    refine W.andU (M := 18446744073709551616) (n := 1) rfl rfl rfl rfl rfl ?_
    refine W.eqlU (n := 1) rfl rfl rfl ?_
    refine W.nil ?_
    refine At.thenCode ?_
    first | refine C.condD rfl (fun c26 => ?_) (fun c26 => ?_) | refine C.cond rfl (fun c26 => ?_) (fun c26 => ?_)
    · refine C.region ?_
      refine W.move rfl rfl ?_
      refine W.move rfl rfl ?_
      refine W.addU (M := 18446744073709551616) rfl rfl rfl rfl rfl ?_
      rw [add64 (by omega)]
      refine W.remU (n := 2305843009213693951) rfl rfl (by omega) rfl ?_
      refine W.assign rfl rfl ?_
      refine W.nil ?_
      refine At.blockNormal ?_
      refine At.thenCode ?_
      refine C.region ?_
      refine W.move rfl rfl ?_
      first | refine W.subI rfl rfl (by omega) rfl ?_ | refine W.subW rfl rfl rfl ?_
      refine W.assign rfl rfl ?_
      refine W.nil ?_
      have hk : (i + 1).toNat = i.toNat + 1 := by omega
      have hr := (sq_bit x i.toNat).1 (by rw [and1_64] at c26; simpa [shrM, show min i.toNat 64 = i.toNat by omega] using c26)
      rw [← hk] at hr
      refine At.thenRound (i - 1, ((s + s) % 2305843009213693951 + x) % 2305843009213693951) (Sub.cons (rfl) (Sub.cons (rfl) (Sub.cons (rfl) (Sub.cons (rfl) (Sub.nil))))) (show w = _ ∧ -1 ≤ (i - 1) ∧ (i - 1) ≤ 60 ∧ (((s + s) % 2305843009213693951 + x) % 2305843009213693951) = x * (x / 2 ^ ((i - 1) + 1).toNat) % 2305843009213693951 from ?_) (show ((i - 1) + 1).toNat < (i + 1).toNat from ?_)
      · exact ⟨rfl, by omega, by omega, by rw [show (i - 1 + 1).toNat = i.toNat by omega, ← hr, hs]⟩
      · omega
    · refine C.skip ?_
      refine At.blockNormal ?_
      refine At.thenCode ?_
      refine C.region ?_
      refine W.move rfl rfl ?_
      first | refine W.subI rfl rfl (by omega) rfl ?_ | refine W.subW rfl rfl rfl ?_
      refine W.assign rfl rfl ?_
      refine W.nil ?_
      have hk : (i + 1).toNat = i.toNat + 1 := by omega
      have hr := (sq_bit x i.toNat).2 (by rw [and1_64] at c26; simpa [shrM, show min i.toNat 64 = i.toNat by omega] using c26)
      rw [← hk] at hr
      refine At.thenRound (i - 1, (s + s) % 2305843009213693951) (Sub.cons (rfl) (Sub.cons (rfl) (Sub.cons (rfl) (Sub.cons (rfl) (Sub.nil))))) (show w = _ ∧ -1 ≤ (i - 1) ∧ (i - 1) ≤ 60 ∧ ((s + s) % 2305843009213693951) = x * (x / 2 ^ ((i - 1) + 1).toNat) % 2305843009213693951 from ?_) (show ((i - 1) + 1).toNat < (i + 1).toNat from ?_)
      · exact ⟨rfl, by omega, by omega, by rw [show (i - 1 + 1).toNat = i.toNat by omega, ← hr, hs]⟩
      · omega
  · refine C.exit ?_
    refine At.thenExit ?_
    refine At.thenExit ?_
    refine At.blockSelf ?_
    refine At.thenCode ?_
    refine C.seq ?_
    refine C.region ?_
    refine W.move rfl rfl ?_
    refine W.move rfl rfl ?_
    refine W.call Try.call12 rfl (Modp.Mul_ok _ _ (by first | omega | decide) (by first | omega | decide) _) rfl ?_
    rintro v w' ⟨rfl, rfl⟩
    refine W.move rfl rfl ?_
    refine W.eqlU rfl rfl rfl ?_
    refine W.eqv (bT (by obtain rfl : i = -1 := (by omega); rw [hs, show (2 : Nat) ^ ((-1 : Int) + 1).toNat = 1 from rfl, Nat.div_one, hx, ← Nat.mul_mod])) ?_
    refine W.move rfl rfl ?_
    refine W.wants rfl rfl rfl rfl ?_
    refine W.move rfl rfl ?_
    refine W.wants rfl rfl rfl rfl ?_
    refine W.call Try.call16 rfl (Modp.Pow_ok _ _ (by first | omega | decide) (by first | omega | decide) _) rfl ?_
    rintro v w' ⟨rfl, rfl⟩
    refine W.wants rfl rfl rfl rfl ?_
    refine W.move rfl rfl ?_
    refine W.wants rfl rfl rfl rfl ?_
    refine W.eqlU rfl rfl rfl ?_
    refine W.eqv (bT (by obtain rfl : i = -1 := (by omega); rw [powP_two, hs, show (2 : Nat) ^ ((-1 : Int) + 1).toNat = 1 from rfl, Nat.div_one, hx, ← Nat.mul_mod])) ?_
    refine W.pickT rfl rfl rfl ?_
    refine W.move rfl rfl ?_
    refine W.wants rfl rfl rfl rfl ?_
    refine W.move rfl rfl ?_
    refine W.wants rfl rfl rfl rfl ?_
    refine W.call Try.call14 rfl (Modp.Sub_ok _ _ (by first | omega | decide) (by first | omega | decide) _) rfl ?_
    rintro v w' ⟨rfl, rfl⟩
    refine W.wants rfl rfl rfl rfl ?_
    refine W.move rfl rfl ?_
    refine W.wants rfl rfl rfl rfl ?_
    refine W.call Try.call14 rfl (Modp.Sub_ok _ _ (by first | omega | decide) (by first | omega | decide) _) rfl ?_
    rintro v w' ⟨rfl, rfl⟩
    refine W.wants rfl rfl rfl rfl ?_
    refine W.call Try.call12 rfl (Modp.Mul_ok _ _ (by first | omega | decide) (by first | omega | decide) _) rfl ?_
    rintro v w' ⟨rfl, rfl⟩
    refine W.wants rfl rfl rfl rfl ?_
    refine W.move rfl rfl ?_
    refine W.wants rfl rfl rfl rfl ?_
    refine W.eqlU rfl rfl rfl ?_
    refine W.eqv (bT (by obtain rfl : i = -1 := (by omega); rw [hs, show (2 : Nat) ^ ((-1 : Int) + 1).toNat = 1 from rfl, Nat.div_one, ← hx]; exact neg_sq x hxl)) ?_
    refine W.pickT rfl rfl rfl ?_
    refine W.assign rfl rfl ?_
    refine W.nil ?_
    refine At.thenCode ?_
    refine C.ret ?_
    refine At.ret1 Try.results6 rfl ?_
    exact ⟨rfl, Below.refl _ _⟩

theorem ModpReckons_ok (a b : Nat) (ha : a < 18446744073709551616) (hb : b < 18446744073709551616) (w : World) :
    Ct Try.prog 7 #[.int .u64 (a : Int), .int .u64 (b : Int)] w (LawOk w) := by
  refine Ct.enter [(0, .int .u64 (a : Int)), (1, .int .u64 (b : Int))] Try.func7 rfl rfl rfl rfl ?_
  refine C.seq ?_
  refine C.region ?_
  refine W.assign rfl rfl ?_
  refine W.nil ?_
  refine At.thenCode ?_
  refine C.seq ?_
  refine C.region ?_
  refine W.call Try.call11 rfl (Law6.alive_ok _) rfl ?_
  rintro v w' ⟨rfl, rfl⟩
  refine W.assign rfl rfl ?_
  refine W.nil ?_
  refine At.thenCode ?_
  refine C.seq ?_
  refine C.region ?_
  refine W.move rfl rfl ?_
  refine W.move rfl rfl ?_
  refine W.wants rfl rfl rfl rfl ?_
  refine W.move rfl rfl ?_
  refine W.wants rfl rfl rfl rfl ?_
  refine W.call Try.call15 rfl (Modp.Reduce_ok _ (by first | omega | exact addM_lt (by decide) _ _) _) rfl ?_
  rintro v w' ⟨rfl, rfl⟩
  refine W.wants rfl rfl rfl rfl ?_
  refine W.move rfl rfl ?_
  refine W.wants rfl rfl rfl rfl ?_
  refine W.remU (n := 2305843009213693951) rfl rfl (by omega) rfl ?_
  refine W.wants rfl rfl rfl rfl ?_
  refine W.eqlU rfl rfl rfl ?_
  refine W.eqv (bT (rfl)) ?_
  refine W.pickT rfl rfl rfl ?_
  refine W.move rfl rfl ?_
  refine W.wants rfl rfl rfl rfl ?_
  refine W.move rfl rfl ?_
  refine W.wants rfl rfl rfl rfl ?_
  refine W.move rfl rfl ?_
  refine W.wants rfl rfl rfl rfl ?_
  refine W.call Try.call13 rfl (Modp.Add_ok _ _ (by first | omega | decide) (by first | omega | decide) _) rfl ?_
  rintro v w' ⟨rfl, rfl⟩
  refine W.wants rfl rfl rfl rfl ?_
  refine W.move rfl rfl ?_
  refine W.wants rfl rfl rfl rfl ?_
  refine W.move rfl rfl ?_
  refine W.wants rfl rfl rfl rfl ?_
  refine W.call Try.call18 rfl (Modp.AddP_ok _ _ (by first | omega | decide) (by first | omega | decide) _) rfl ?_
  rintro v w' ⟨rfl, rfl⟩
  refine W.wants rfl rfl rfl rfl ?_
  refine W.eqlU rfl rfl rfl ?_
  refine W.eqv (bT (rfl)) ?_
  refine W.pickT rfl rfl rfl ?_
  refine W.move rfl rfl ?_
  refine W.wants rfl rfl rfl rfl ?_
  refine W.move rfl rfl ?_
  refine W.wants rfl rfl rfl rfl ?_
  refine W.move rfl rfl ?_
  refine W.wants rfl rfl rfl rfl ?_
  refine W.call Try.call14 rfl (Modp.Sub_ok _ _ (by first | omega | decide) (by first | omega | decide) _) rfl ?_
  rintro v w' ⟨rfl, rfl⟩
  refine W.wants rfl rfl rfl rfl ?_
  refine W.move rfl rfl ?_
  refine W.wants rfl rfl rfl rfl ?_
  refine W.move rfl rfl ?_
  refine W.wants rfl rfl rfl rfl ?_
  refine W.call Try.call19 rfl (Modp.SubP_ok _ _ (by first | omega | decide) (by first | omega | decide) _) rfl ?_
  rintro v w' ⟨rfl, rfl⟩
  refine W.wants rfl rfl rfl rfl ?_
  refine W.eqlU rfl rfl rfl ?_
  refine W.eqv (bT (rfl)) ?_
  refine W.pickT rfl rfl rfl ?_
  refine W.move rfl rfl ?_
  refine W.wants rfl rfl rfl rfl ?_
  refine W.move rfl rfl ?_
  refine W.wants rfl rfl rfl rfl ?_
  refine W.move rfl rfl ?_
  refine W.wants rfl rfl rfl rfl ?_
  refine W.call Try.call12 rfl (Modp.Mul_ok _ _ (by first | omega | decide) (by first | omega | decide) _) rfl ?_
  rintro v w' ⟨rfl, rfl⟩
  refine W.wants rfl rfl rfl rfl ?_
  refine W.move rfl rfl ?_
  refine W.wants rfl rfl rfl rfl ?_
  refine W.move rfl rfl ?_
  refine W.wants rfl rfl rfl rfl ?_
  refine W.call Try.call20 rfl (Modp.MulP_ok _ _ (by first | omega | decide) (by first | omega | decide) _) rfl ?_
  rintro v w' ⟨rfl, rfl⟩
  refine W.wants rfl rfl rfl rfl ?_
  refine W.eqlU rfl rfl rfl ?_
  refine W.eqv (bT (rfl)) ?_
  refine W.pickT rfl rfl rfl ?_
  refine W.move rfl rfl ?_
  refine W.wants rfl rfl rfl rfl ?_
  refine W.move rfl rfl ?_
  refine W.wants rfl rfl rfl rfl ?_
  refine W.move rfl rfl ?_
  refine W.wants rfl rfl rfl rfl ?_
  refine W.call Try.call16 rfl (Modp.Pow_ok _ _ (by first | omega | decide) (by first | omega | decide) _) rfl ?_
  rintro v w' ⟨rfl, rfl⟩
  refine W.wants rfl rfl rfl rfl ?_
  refine W.move rfl rfl ?_
  refine W.wants rfl rfl rfl rfl ?_
  refine W.move rfl rfl ?_
  refine W.wants rfl rfl rfl rfl ?_
  refine W.call Try.call21 rfl (Modp.PowP_ok _ _ (by first | omega | decide) (by first | omega | decide) _) rfl ?_
  rintro v w' ⟨rfl, rfl⟩
  refine W.wants rfl rfl rfl rfl ?_
  refine W.eqlU rfl rfl rfl ?_
  refine W.eqv (bT (rfl)) ?_
  refine W.pickT rfl rfl rfl ?_
  refine W.move rfl rfl ?_
  refine W.wants rfl rfl rfl rfl ?_
  refine W.move rfl rfl ?_
  refine W.wants rfl rfl rfl rfl ?_
  refine W.call Try.call17 rfl (Modp.Inv_ok _ (by first | omega | decide) _) rfl ?_
  rintro v w' ⟨rfl, rfl⟩
  refine W.wants rfl rfl rfl rfl ?_
  refine W.move rfl rfl ?_
  refine W.wants rfl rfl rfl rfl ?_
  refine W.call Try.call22 rfl (Modp.InvP_ok _ (by first | omega | decide) _) rfl ?_
  rintro v w' ⟨rfl, rfl⟩
  refine W.wants rfl rfl rfl rfl ?_
  refine W.eqlU rfl rfl rfl ?_
  refine W.eqv (bT (rfl)) ?_
  refine W.pickT rfl rfl rfl ?_
  refine W.assign rfl rfl ?_
  refine W.nil ?_
  refine At.thenCode ?_
  refine C.ret ?_
  refine At.ret1 Try.results7 rfl ?_
  exact ⟨rfl, Below.refl _ _⟩
end Go.Proofs.Ytknpcejlachlmaa.Law6
