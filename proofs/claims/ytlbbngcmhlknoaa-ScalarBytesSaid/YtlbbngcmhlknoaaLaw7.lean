/- The walks of chapter 7's laws. -/
import Derived.Test.YtlbbngcmhlknoaaScal
namespace Go.Proofs.Ytlbbngcmhlknoaa.Law7
open Go Go.RowKit Go.Proofs.Ytlbbngcmhlknoaa.KW Go.Proofs.Ytlbbngcmhlknoaa.Words Go.Proofs.Ytlbbngcmhlknoaa.Modp Go.Proofs.Ytlbbngcmhlknoaa.Modn Go.Proofs.Ytlbbngcmhlknoaa.Scal
set_option linter.unusedVariables false
set_option linter.unusedSimpArgs false
set_option maxRecDepth 100000

theorem alive_ok (w : World) : Ct Try.prog 7 #[] w (fun v w' => v = .bool true ∧ Ext w w') := by
  refine Ct.enter [] Try.func7 rfl rfl rfl rfl ?_
  refine C.seq ?_
  refine C.region ?_
  refine W.assign rfl rfl ?_
  refine W.nil ?_
  refine At.thenCode ?_
  refine C.seq ?_
  refine C.region ?_
  refine W.call Try.call9 rfl (Scal.Add_ok 2305843009213693949 1 _) rfl ?_
  rintro v w' ⟨rfl, rfl⟩
  refine W.eqlU (n := 0) rfl rfl rfl ?_
  refine W.eqv (bT (by decide)) ?_
  refine W.move rfl rfl ?_
  refine W.wants rfl rfl rfl rfl ?_
  refine W.call Try.call13 rfl (Scal.Mul_ok 2 3 _) rfl ?_
  rintro v4 w4 ⟨rfl, hX4⟩
  refine W.wants rfl rfl rfl rfl ?_
  refine W.eqlU (n := 6) rfl rfl rfl ?_
  refine W.eqv (bT (by decide)) ?_
  refine W.pickT rfl rfl rfl ?_
  refine W.assign rfl rfl ?_
  refine W.nil ?_
  refine At.thenCode ?_
  refine C.ret ?_
  refine At.ret1 Try.results7 rfl ?_
  exact ⟨rfl, hX4⟩

theorem ScalarReckons_walk (a b : Nat) (ha : a < 18446744073709551616) (hb : b < 18446744073709551616) (w : World) :
    Ct Try.prog 3 #[.int .u64 (a : Int), .int .u64 (b : Int)] w (LawOk w) := by
  refine Ct.enter [(0, .int .u64 (a : Int)), (1, .int .u64 (b : Int))] Try.func3 rfl rfl rfl rfl ?_
  refine C.seq ?_
  refine C.region ?_
  refine W.assign rfl rfl ?_
  refine W.nil ?_
  refine At.thenCode ?_
  refine C.seq ?_
  refine C.region ?_
  refine W.call Try.call7 rfl (Law7.alive_ok _) rfl ?_
  rintro v6 w6 ⟨rfl, hX6⟩
  refine W.assign rfl rfl ?_
  refine W.nil ?_
  refine At.thenCode ?_
  refine C.seq ?_
  refine C.region ?_
  refine W.move rfl rfl ?_
  refine W.move rfl rfl ?_
  refine W.wants rfl rfl rfl rfl ?_
  refine W.move rfl rfl ?_
  refine W.wants rfl rfl rfl rfl ?_
  refine W.call Try.call8 rfl (Scal.Reduce_ok _ _) rfl ?_
  rintro v w' ⟨rfl, rfl⟩
  refine W.wants rfl rfl rfl rfl ?_
  refine W.move rfl rfl ?_
  refine W.wants rfl rfl rfl rfl ?_
  refine W.remU (n := 2305843009213693950) rfl rfl (by omega) rfl ?_
  refine W.wants rfl rfl rfl rfl ?_
  refine W.eqlU rfl rfl rfl ?_
  refine W.eqv (bT (rfl)) ?_
  refine W.pickT rfl rfl rfl ?_
  refine W.move rfl rfl ?_
  refine W.wants rfl rfl rfl rfl ?_
  refine W.move rfl rfl ?_
  refine W.wants rfl rfl rfl rfl ?_
  refine W.move rfl rfl ?_
  refine W.wants rfl rfl rfl rfl ?_
  refine W.call Try.call9 rfl (Scal.Add_ok _ _ _) rfl ?_
  rintro v w' ⟨rfl, rfl⟩
  refine W.wants rfl rfl rfl rfl ?_
  refine W.move rfl rfl ?_
  refine W.wants rfl rfl rfl rfl ?_
  refine W.move rfl rfl ?_
  refine W.wants rfl rfl rfl rfl ?_
  refine W.call Try.call10 rfl (Modn.AddN_ok _ _ (by first | omega | decide) (by first | omega | decide) _) rfl ?_
  rintro v w' ⟨rfl, rfl⟩
  refine W.wants rfl rfl rfl rfl ?_
  refine W.eqlU rfl rfl rfl ?_
  refine W.eqv (bT (rfl)) ?_
  refine W.pickT rfl rfl rfl ?_
  refine W.move rfl rfl ?_
  refine W.wants rfl rfl rfl rfl ?_
  refine W.move rfl rfl ?_
  refine W.wants rfl rfl rfl rfl ?_
  refine W.move rfl rfl ?_
  refine W.wants rfl rfl rfl rfl ?_
  refine W.call Try.call11 rfl (Scal.Sub_ok _ _ _) rfl ?_
  rintro v w' ⟨rfl, rfl⟩
  refine W.wants rfl rfl rfl rfl ?_
  refine W.move rfl rfl ?_
  refine W.wants rfl rfl rfl rfl ?_
  refine W.move rfl rfl ?_
  refine W.wants rfl rfl rfl rfl ?_
  refine W.call Try.call12 rfl (Modn.SubN_ok _ _ (by first | omega | decide) (by first | omega | decide) _) rfl ?_
  rintro v w' ⟨rfl, rfl⟩
  refine W.wants rfl rfl rfl rfl ?_
  refine W.eqlU rfl rfl rfl ?_
  refine W.eqv (bT (rfl)) ?_
  refine W.pickT rfl rfl rfl ?_
  refine W.move rfl rfl ?_
  refine W.wants rfl rfl rfl rfl ?_
  refine W.move rfl rfl ?_
  refine W.wants rfl rfl rfl rfl ?_
  refine W.move rfl rfl ?_
  refine W.wants rfl rfl rfl rfl ?_
  refine W.call Try.call13 rfl (Scal.Mul_ok _ _ _) rfl ?_
  rintro v36 w36 ⟨rfl, hX36⟩
  refine W.wants rfl rfl rfl rfl ?_
  refine W.move rfl rfl ?_
  refine W.wants rfl rfl rfl rfl ?_
  refine W.move rfl rfl ?_
  refine W.wants rfl rfl rfl rfl ?_
  refine W.call Try.call14 rfl (Modn.MulN_ok _ _ (by first | omega | decide) (by first | omega | decide) _) rfl ?_
  rintro v w' ⟨rfl, rfl⟩
  refine W.wants rfl rfl rfl rfl ?_
  refine W.eqlU rfl rfl rfl ?_
  refine W.eqv (bT (rfl)) ?_
  refine W.pickT rfl rfl rfl ?_
  refine W.assign rfl rfl ?_
  refine W.nil ?_
  refine At.thenCode ?_
  refine C.ret ?_
  refine At.ret1 Try.results3 rfl ?_
  exact ⟨rfl, Ext.below (hX6.ext hX36)⟩

theorem ScalarLaws_walk (a b c : Nat) (ha : a < 18446744073709551616) (hb : b < 18446744073709551616) (hc : c < 18446744073709551616) (w : World) :
    Ct Try.prog 4 #[.int .u64 (a : Int), .int .u64 (b : Int), .int .u64 (c : Int)] w (LawOk w) := by
  refine Ct.enter [(0, .int .u64 (a : Int)), (1, .int .u64 (b : Int)), (2, .int .u64 (c : Int))] Try.func4 rfl rfl rfl rfl ?_
  refine C.seq ?_
  refine C.region ?_
  refine W.assign rfl rfl ?_
  refine W.nil ?_
  refine At.thenCode ?_
  refine C.seq ?_
  refine C.region ?_
  refine W.call Try.call7 rfl (Law7.alive_ok _) rfl ?_
  rintro v8 w8 ⟨rfl, hX8⟩
  refine W.assign rfl rfl ?_
  refine W.nil ?_
  refine At.thenCode ?_
  refine C.seq ?_
  refine C.seq ?_
  refine C.region ?_
  refine W.move rfl rfl ?_
  first | refine W.notD rfl rfl ?_ | refine W.notB rfl rfl ?_
  refine W.nil ?_
  refine At.thenCode ?_
  refine C.condF rfl ?_
  refine C.skip ?_
  refine At.thenCode ?_
  refine C.seq ?_
  refine C.seq ?_
  refine C.region ?_
  refine W.move rfl rfl ?_
  refine W.move rfl rfl ?_
  refine W.call Try.call13 rfl (Scal.Mul_ok _ _ _) rfl ?_
  rintro v14 w14 ⟨rfl, hX14⟩
  refine W.move rfl rfl ?_
  refine W.move rfl rfl ?_
  refine W.call Try.call13 rfl (Scal.Mul_ok _ _ _) rfl ?_
  rintro v17 w17 ⟨rfl, hX17⟩
  refine W.neqU rfl rfl rfl ?_
  refine W.eqv (bF (by rw [Nat.mul_comm a b]; simp)) ?_
  refine W.move rfl rfl ?_
  refine W.wants rfl rfl rfl rfl ?_
  refine W.move rfl rfl ?_
  refine W.wants rfl rfl rfl rfl ?_
  refine W.move rfl rfl ?_
  refine W.wants rfl rfl rfl rfl ?_
  refine W.call Try.call13 rfl (Scal.Mul_ok _ _ _) rfl ?_
  rintro v22 w22 ⟨rfl, hX22⟩
  refine W.wants rfl rfl rfl rfl ?_
  refine W.move rfl rfl ?_
  refine W.wants rfl rfl rfl rfl ?_
  refine W.call Try.call13 rfl (Scal.Mul_ok _ _ _) rfl ?_
  rintro v24 w24 ⟨rfl, hX24⟩
  refine W.wants rfl rfl rfl rfl ?_
  refine W.move rfl rfl ?_
  refine W.wants rfl rfl rfl rfl ?_
  refine W.move rfl rfl ?_
  refine W.wants rfl rfl rfl rfl ?_
  refine W.move rfl rfl ?_
  refine W.wants rfl rfl rfl rfl ?_
  refine W.call Try.call13 rfl (Scal.Mul_ok _ _ _) rfl ?_
  rintro v28 w28 ⟨rfl, hX28⟩
  refine W.wants rfl rfl rfl rfl ?_
  refine W.call Try.call13 rfl (Scal.Mul_ok _ _ _) rfl ?_
  rintro v29 w29 ⟨rfl, hX29⟩
  refine W.wants rfl rfl rfl rfl ?_
  refine W.neqU rfl rfl rfl ?_
  refine W.eqv (bF (by rw [Nat.mod_mul_mod, Nat.mul_mod_mod, Nat.mul_assoc]; simp)) ?_
  refine W.pickF rfl rfl rfl ?_
  refine W.move rfl rfl ?_
  refine W.wants rfl rfl rfl rfl ?_
  refine W.move rfl rfl ?_
  refine W.wants rfl rfl rfl rfl ?_
  refine W.move rfl rfl ?_
  refine W.wants rfl rfl rfl rfl ?_
  refine W.call Try.call9 rfl (Scal.Add_ok _ _ _) rfl ?_
  rintro v w' ⟨rfl, rfl⟩
  refine W.wants rfl rfl rfl rfl ?_
  refine W.move rfl rfl ?_
  refine W.wants rfl rfl rfl rfl ?_
  refine W.call Try.call9 rfl (Scal.Add_ok _ _ _) rfl ?_
  rintro v w' ⟨rfl, rfl⟩
  refine W.wants rfl rfl rfl rfl ?_
  refine W.move rfl rfl ?_
  refine W.wants rfl rfl rfl rfl ?_
  refine W.move rfl rfl ?_
  refine W.wants rfl rfl rfl rfl ?_
  refine W.move rfl rfl ?_
  refine W.wants rfl rfl rfl rfl ?_
  refine W.call Try.call9 rfl (Scal.Add_ok _ _ _) rfl ?_
  rintro v w' ⟨rfl, rfl⟩
  refine W.wants rfl rfl rfl rfl ?_
  refine W.call Try.call9 rfl (Scal.Add_ok _ _ _) rfl ?_
  rintro v w' ⟨rfl, rfl⟩
  refine W.wants rfl rfl rfl rfl ?_
  refine W.neqU rfl rfl rfl ?_
  refine W.eqv (bF (by rw [Nat.mod_add_mod, Nat.add_mod_mod, Nat.add_assoc]; simp)) ?_
  refine W.pickF rfl rfl rfl ?_
  refine W.nil ?_
  refine At.thenCode ?_
  refine C.condF rfl ?_
  refine C.skip ?_
  refine At.thenCode ?_
  refine C.seq ?_
  refine C.region ?_
  refine W.move rfl rfl ?_
  refine W.move rfl rfl ?_
  refine W.move rfl rfl ?_
  refine W.call Try.call9 rfl (Scal.Add_ok _ _ _) rfl ?_
  rintro v w' ⟨rfl, rfl⟩
  refine W.call Try.call13 rfl (Scal.Mul_ok _ _ _) rfl ?_
  rintro v49 w49 ⟨rfl, hX49⟩
  refine W.move rfl rfl ?_
  refine W.move rfl rfl ?_
  refine W.call Try.call13 rfl (Scal.Mul_ok _ _ _) rfl ?_
  rintro v52 w52 ⟨rfl, hX52⟩
  refine W.move rfl rfl ?_
  refine W.move rfl rfl ?_
  refine W.call Try.call13 rfl (Scal.Mul_ok _ _ _) rfl ?_
  rintro v55 w55 ⟨rfl, hX55⟩
  refine W.call Try.call9 rfl (Scal.Add_ok _ _ _) rfl ?_
  rintro v w' ⟨rfl, rfl⟩
  refine W.eqlU rfl rfl rfl ?_
  refine W.eqv (bT (by rw [Nat.mul_mod_mod, Nat.mod_add_mod, Nat.add_mod_mod, Nat.mul_add])) ?_
  refine W.move rfl rfl ?_
  refine W.wants rfl rfl rfl rfl ?_
  refine W.move rfl rfl ?_
  refine W.wants rfl rfl rfl rfl ?_
  refine W.move rfl rfl ?_
  refine W.wants rfl rfl rfl rfl ?_
  refine W.call Try.call11 rfl (Scal.Sub_ok _ _ _) rfl ?_
  rintro v w' ⟨rfl, rfl⟩
  refine W.wants rfl rfl rfl rfl ?_
  refine W.move rfl rfl ?_
  refine W.wants rfl rfl rfl rfl ?_
  refine W.call Try.call9 rfl (Scal.Add_ok _ _ _) rfl ?_
  rintro v w' ⟨rfl, rfl⟩
  refine W.wants rfl rfl rfl rfl ?_
  refine W.move rfl rfl ?_
  refine W.wants rfl rfl rfl rfl ?_
  refine W.call Try.call8 rfl (Scal.Reduce_ok _ _) rfl ?_
  rintro v w' ⟨rfl, rfl⟩
  refine W.wants rfl rfl rfl rfl ?_
  refine W.eqlU rfl rfl rfl ?_
  refine W.eqv (bT (by omega)) ?_
  refine W.pickT rfl rfl rfl ?_
  refine W.assign rfl rfl ?_
  refine W.nil ?_
  refine At.thenCode ?_
  refine C.ret ?_
  refine At.ret1 Try.results4 rfl ?_
  exact ⟨rfl, Ext.below (hX8.ext (((((((hX14.ext hX17).ext hX22).ext hX24).ext hX28).ext hX29).ext ((hX49.ext hX52).ext hX55))))⟩

theorem times_step (x y s i : Nat) (hs : s = y / 2 ^ (i + 1) * x % 2305843009213693950) :
    (y / 2 ^ i % 2 = 1 → ((s + s) % 2305843009213693950 + x) % 2305843009213693950 = y / 2 ^ i * x % 2305843009213693950) ∧
    (¬ y / 2 ^ i % 2 = 1 → (s + s) % 2305843009213693950 = y / 2 ^ i * x % 2305843009213693950) := by
  have e : y / 2 ^ (i + 1) = y / 2 ^ i / 2 := by rw [Nat.pow_succ, Nat.div_div_eq_div_mul]
  rw [e] at hs
  generalize y / 2 ^ i = z at *
  refine ⟨fun h => ?_, fun h => ?_⟩
  · have hz : z * x = z / 2 * x + z / 2 * x + x := by
      have : z = z / 2 + z / 2 + 1 := by omega
      rw [← Nat.add_mul, ← Nat.succ_mul]; congr 1
    rw [hz, hs]
    generalize z / 2 * x = q
    omega
  · have hz : z * x = z / 2 * x + z / 2 * x := by
      have : z = z / 2 + z / 2 := by omega
      rw [← Nat.add_mul]; congr 1
    rw [hz, hs]
    generalize z / 2 * x = q
    omega
theorem ScalarTimes_walk (a b : Nat) (ha : a < 18446744073709551616) (hb : b < 18446744073709551616) (w : World) :
    Ct Try.prog 5 #[.int .u64 (a : Int), .int .u64 (b : Int)] w (LawOk w) := by
  refine Ct.enter [(0, .int .u64 (a : Int)), (1, .int .u64 (b : Int))] Try.func5 rfl rfl rfl rfl ?_
  refine C.seq ?_
  refine C.region ?_
  refine W.assign rfl rfl ?_
  refine W.nil ?_
  refine At.thenCode ?_
  refine C.seq ?_
  refine C.region ?_
  refine W.call Try.call7 rfl (Law7.alive_ok _) rfl ?_
  rintro v10 w10 ⟨rfl, hX10⟩
  refine W.assign rfl rfl ?_
  refine W.nil ?_
  refine At.thenCode ?_
  refine C.seq ?_
  refine C.seq ?_
  refine C.region ?_
  refine W.move rfl rfl ?_
  first | refine W.notD rfl rfl ?_ | refine W.notB rfl rfl ?_
  refine W.nil ?_
  refine At.thenCode ?_
  refine C.condF rfl ?_
  refine C.skip ?_
  refine At.thenCode ?_
  refine C.seq ?_
  refine C.region ?_
  refine W.move rfl rfl ?_
  refine W.remU (n := 2305843009213693950) rfl rfl (by omega) rfl ?_
  obtain ⟨x, hx⟩ : ∃ x, x = a % 2305843009213693950 := ⟨_, rfl⟩
  rw [← hx]
  refine W.assign rfl rfl ?_
  refine W.nil ?_
  refine At.thenCode ?_
  refine C.seq ?_
  refine C.region ?_
  refine W.move rfl rfl ?_
  refine W.remU (n := 2305843009213693950) rfl rfl (by omega) rfl ?_
  obtain ⟨y, hy⟩ : ∃ y, y = b % 2305843009213693950 := ⟨_, rfl⟩
  rw [← hy]
  have hxl : x < 2305843009213693950 := by omega
  have hyl : y < 2305843009213693950 := by omega
  refine W.assign rfl rfl ?_
  refine W.nil ?_
  refine At.thenCode ?_
  refine C.seq ?_
  refine C.region ?_
  refine W.assign rfl rfl ?_
  refine W.nil ?_
  refine At.thenCode ?_
  refine C.seq ?_
  refine C.seq ?_
  refine C.region ?_
  refine W.assign rfl rfl ?_
  refine W.nil ?_
  refine At.thenCode ?_
  refine C.block ?_
  refine C.loop (X := Nat × Nat) (fun x_ => [(0, .int .u64 (a : Int)), (1, .int .u64 (b : Int)), (6, .int .u64 (x : Int)), (7, .int .u64 (y : Int)), (8, .int .u64 (x_.2 : Int)), (9, .int .i64 ((x_.1 : Int) - 1))]) (fun x_ w1 => w10 = w1 ∧ x_.1 ≤ 61 ∧ x_.2 = y / 2 ^ x_.1 * x % 2305843009213693950) (fun x_ => x_.1) (61, 0) (Sub.cons (rfl) (Sub.cons (rfl) (Sub.cons (rfl) (Sub.cons (rfl) (Sub.cons (rfl) (Sub.cons (rfl) (Sub.nil))))))) ?start1 ?_
  case start1 =>
    show w10 = _ ∧ (61) ≤ 61 ∧ (0) = y / 2 ^ (61) * x % 2305843009213693950
    exact ⟨rfl, by omega, by rw [Nat.div_eq_of_lt (show y < 2 ^ 61 by omega)]; simp⟩
  rintro ⟨k, s⟩ w1 hI_
  replace hI_ : w10 = w1 ∧ k ≤ 61 ∧ s = y / 2 ^ k * x % 2305843009213693950 := hI_
  obtain ⟨rfl, hk, hs⟩ := hI_
  refine C.weaken (l' := [(0, .int .u64 (a : Int)), (1, .int .u64 (b : Int)), (6, .int .u64 (x : Int)), (7, .int .u64 (y : Int)), (8, .int .u64 (s : Int)), (9, .int .i64 ((k : Int) - 1))]) (Sub.cons (rfl) (Sub.cons (rfl) (Sub.cons (rfl) (Sub.cons (rfl) (Sub.cons (rfl) (Sub.cons (rfl) (Sub.nil))))))) ?_
  refine C.seq ?_
  refine C.seq ?_
  refine C.region ?_
  refine W.move rfl rfl ?_
  refine W.geqI rfl rfl rfl ?_
  refine W.nil ?_
  refine At.thenCode ?_
  first | refine C.condD rfl (fun c19 => ?_) (fun c19 => ?_) | refine C.cond rfl (fun c19 => ?_) (fun c19 => ?_)
  · obtain ⟨i, hki⟩ : ∃ i, k = i + 1 := ⟨k - 1, by omega⟩
    obtain ⟨st1, st2⟩ := times_step x y s i (hki ▸ hs)
    have hsl : s < 2305843009213693950 := by rw [hs]; exact mod_lt_N _
    refine C.skip ?_
    refine At.thenCode ?_
    refine C.seq ?_
    refine C.block ?_
    refine C.seq ?_
    refine C.region ?_
    refine W.move rfl rfl ?_
    refine W.move rfl rfl ?_
    refine W.addU (M := 18446744073709551616) rfl rfl rfl rfl rfl ?_
    rw [add64 (by omega)]
    refine W.remU (n := 2305843009213693950) rfl rfl (by omega) rfl ?_
    refine W.assign rfl rfl ?_
    refine W.nil ?_
    refine At.thenCode ?_
    refine C.seq ?_
    refine C.region ?_
    refine W.move rfl rfl ?_
    refine W.move rfl rfl ?_
    refine W.convU (m := i) (M := 18446744073709551616) (look_eq rfl (by rw [show (k : Int) - 1 = ((i : Nat) : Int) by omega])) Try.underlying3 Try.underlying28 rfl rfl (by omega) rfl ?_
    refine W.shrU (B := 64) rfl rfl rfl rfl ?_
    refine W.andU (M := 18446744073709551616) (n := 1) rfl rfl rfl rfl rfl ?_
    rw [and1_64, shrM, Nat.min_eq_left (by omega)]
    refine W.eqlU (n := 1) rfl rfl rfl ?_
    refine W.nil ?_
    refine At.thenCode ?_
    first | refine C.condD rfl (fun c31 => ?_) (fun c31 => ?_) | refine C.cond rfl (fun c31 => ?_) (fun c31 => ?_)
    · refine C.region ?_
      refine W.move rfl rfl ?_
      refine W.move rfl rfl ?_
      refine W.addU (M := 18446744073709551616) rfl rfl rfl rfl rfl ?_
      rw [add64 (by omega)]
      refine W.remU (n := 2305843009213693950) rfl rfl (by omega) rfl ?_
      refine W.assign rfl rfl ?_
      refine W.nil ?_
      refine At.blockNormal ?_
      refine At.thenCode ?_
      refine C.region ?_
      refine W.move rfl rfl ?_
      first | refine W.subI rfl rfl (by omega) rfl ?_ | refine W.subW rfl rfl rfl ?_
      refine W.assign rfl rfl ?_
      refine W.nil ?_
      refine At.thenRound (i, ((s + s) % 2305843009213693950 + x) % 2305843009213693950) (Sub.cons (rfl) (Sub.cons (rfl) (Sub.cons (rfl) (Sub.cons (rfl) (Sub.cons (rfl) (Sub.cons (look_eq rfl (by rw [show (k : Int) - 1 - 1 = ((i : Nat) : Int) - 1 by omega])) (Sub.nil))))))) (show w10 = _ ∧ (i) ≤ 61 ∧ (((s + s) % 2305843009213693950 + x) % 2305843009213693950) = y / 2 ^ (i) * x % 2305843009213693950 from ?_) (show (i) < k from ?_)
      · exact ⟨rfl, by omega, st1 c31⟩
      · omega
    · refine C.skip ?_
      refine At.blockNormal ?_
      refine At.thenCode ?_
      refine C.region ?_
      refine W.move rfl rfl ?_
      first | refine W.subI rfl rfl (by omega) rfl ?_ | refine W.subW rfl rfl rfl ?_
      refine W.assign rfl rfl ?_
      refine W.nil ?_
      refine At.thenRound (i, (s + s) % 2305843009213693950) (Sub.cons (rfl) (Sub.cons (rfl) (Sub.cons (rfl) (Sub.cons (rfl) (Sub.cons (rfl) (Sub.cons (look_eq rfl (by rw [show (k : Int) - 1 - 1 = ((i : Nat) : Int) - 1 by omega])) (Sub.nil))))))) (show w10 = _ ∧ (i) ≤ 61 ∧ ((s + s) % 2305843009213693950) = y / 2 ^ (i) * x % 2305843009213693950 from ?_) (show (i) < k from ?_)
      · exact ⟨rfl, by omega, st2 c31⟩
      · omega
  · refine C.exit ?_
    refine At.thenExit ?_
    refine At.thenExit ?_
    refine At.blockSelf ?_
    refine At.thenCode ?_
    refine C.seq ?_
    refine C.region ?_
    refine W.move rfl rfl ?_
    refine W.move rfl rfl ?_
    refine W.call Try.call13 rfl (Scal.Mul_ok _ _ _) rfl ?_
    rintro v38 w38 ⟨rfl, hX38⟩
    refine W.move rfl rfl ?_
    refine W.eqlU rfl rfl rfl ?_
    refine W.eqv (bT (by
    obtain rfl : k = 0 := by omega
    rw [hs, Nat.pow_zero, Nat.div_one, hy, hx, Nat.mul_comm, ← Nat.mul_mod])) ?_
    refine W.move rfl rfl ?_
    refine W.wants rfl rfl rfl rfl ?_
    refine W.move rfl rfl ?_
    refine W.wants rfl rfl rfl rfl ?_
    refine W.call Try.call11 rfl (Scal.Sub_ok 0 a _) rfl ?_
    rintro v w' ⟨rfl, rfl⟩
    refine W.wants rfl rfl rfl rfl ?_
    refine W.call Try.call11 rfl (Scal.Sub_ok 0 _ _) rfl ?_
    rintro v w' ⟨rfl, rfl⟩
    refine W.wants rfl rfl rfl rfl ?_
    refine W.move rfl rfl ?_
    refine W.wants rfl rfl rfl rfl ?_
    refine W.eqlU rfl rfl rfl ?_
    refine W.eqv (bT (by omega)) ?_
    refine W.pickT rfl rfl rfl ?_
    refine W.assign rfl rfl ?_
    refine W.nil ?_
    refine At.thenCode ?_
    refine C.ret ?_
    refine At.ret1 Try.results5 rfl ?_
    exact ⟨rfl, Ext.below (hX10.ext hX38)⟩

theorem ScalarBytes_walk (ao : Option Addr) (c : Nat) (xs : List UInt8) (z : Nat) (w : World) (hS : Bs w ao c xs) (hl : xs.length ≤ 9223372036854775807) (hz : z < 256) :
    Ct Try.prog 6 #[.slice ao xs.length c, .int .u8 (z : Int)] w (LawOk w) := by
  refine Ct.enter [(0, .slice ao xs.length c), (1, .int .u8 (z : Int))] Try.func6 rfl rfl rfl rfl ?_
  refine C.seq ?_
  refine C.region ?_
  refine W.assign rfl rfl ?_
  refine W.nil ?_
  refine At.thenCode ?_
  refine C.seq ?_
  refine C.region ?_
  refine W.call Try.call7 rfl (Law7.alive_ok _) rfl ?_
  rintro v9 w9 ⟨rfl, hX9⟩
  have hS := hS.ext hX9
  refine W.assign rfl rfl ?_
  refine W.nil ?_
  refine At.thenCode ?_
  refine C.seq ?_
  refine C.seq ?_
  refine C.region ?_
  refine W.move rfl rfl ?_
  first | refine W.notD rfl rfl ?_ | refine W.notB rfl rfl ?_
  refine W.move rfl rfl ?_
  refine W.wants rfl rfl rfl rfl ?_
  refine W.move rfl rfl ?_
  refine W.wants rfl rfl rfl rfl ?_
  refine W.lenS rfl Try.underlying29 rfl ?_
  refine W.wants rfl rfl rfl rfl ?_
  refine W.gtrI rfl rfl rfl ?_
  refine W.pickF rfl rfl rfl ?_
  refine W.nil ?_
  refine At.thenCode ?_
  first | refine C.condD rfl (fun c16 => ?_) (fun c16 => ?_) | refine C.cond rfl (fun c16 => ?_) (fun c16 => ?_)
  · refine C.seq ?_
    refine C.region ?_
    refine W.move rfl rfl ?_
    refine W.assign rfl rfl ?_
    refine W.nil ?_
    refine At.thenCode ?_
    refine C.ret ?_
    refine At.thenRet ?_
    refine At.ret1 Try.results6 rfl ?_
    exact ⟨rfl, hX9.below⟩
  · refine C.skip ?_
    refine At.thenCode ?_
    refine C.seq ?_
    refine C.region ?_
    refine W.move rfl rfl ?_
    refine W.appendB E8 Try.underlying29 rfl rfl (Ow.nil _ _ 5) hS (by simp; omega) (Nat.le_refl _) rfl ?_
    rw [List.nil_append]
    intro v19 w19 ho19 hg19 _
    have hX19 : Ext w9 w19 := (Chg.of_grown hg19).mono fun k hk => by cases hk
    obtain ⟨ao19, c19, rfl, hS19, hb19⟩ := ownsRow_form ho19
    refine W.call Try.call15 rfl (Of_ok _ _ _ _ hS19 (by omega)) rfl ?_
    rintro v20 w20 ⟨rfl, hX20⟩
    have hX1920 := hX19.ext hX20
    have hS := hS.ext hX1920
    have hnl := ofN_lt (x := 0) (by decide) xs
    refine W.assign rfl rfl ?_
    refine W.nil ?_
    refine At.thenCode ?_
    refine C.seq ?_
    refine C.region ?_
    refine W.move rfl rfl ?_
    refine W.appendB E8 Try.underlying29 rfl rfl (Ow.nil _ _ 5) hS (by simp; omega) (Nat.le_refl _) rfl ?_
    rw [List.nil_append]
    intro v22 w22 ho22 hg22 _
    have hX22 : Ext w20 w22 := (Chg.of_grown hg22).mono fun k hk => by cases hk
    refine W.move rfl rfl ?_
    refine W.litB [UInt8.ofNat z] E8 Try.underlying29 rfl ?_ rfl rfl rfl ?_
    · simp only [List.map_cons, List.map_nil, byteV_ofNat, Nat.mod_eq_of_lt hz]; rfl
    intro g24 w24 hg24 hX24 _ hb24
    have ho22' := ownsRow_ext ho22 hX24
    refine W.appendB E8 Try.underlying29 rfl rfl ho22' hb24 (by simp; omega) (by have := hX22.size; have := hX24.size; omega) rfl ?_
    intro v25 w25 ho25 hg25 _
    have hX25 : Ext w20 w25 := (hX22.ext hX24).news (Chg.of_grown hg25) (fun k hk => Or.inr ((World.ownsRow.lt ho22' k hk.symm).1))
    obtain ⟨ao25, c25, rfl, hS25, hb25⟩ := ownsRow_form ho25
    refine W.call Try.call15 rfl (Of_ok _ _ _ _ hS25 (by rw [List.length_append, List.length_singleton]; omega)) rfl ?_
    rintro v26 w26 ⟨rfl, hX26⟩
    rw [ofN_snoc, ofNat_toNat, Nat.mod_eq_of_lt hz]
    have hX2526 := hX25.ext hX26
    have hS := hS.ext hX2526
    refine W.assign rfl rfl ?_
    refine W.nil ?_
    refine At.thenCode ?_
    refine C.seq ?_
    refine C.region ?_
    refine W.litB [0] E8 Try.underlying29 rfl rfl rfl rfl rfl ?_
    intro g27 w27 hg27 hX27 ho27 hb27
    have hS := hS.ext hX27
    refine W.move rfl rfl ?_
    refine W.appendB E8 Try.underlying29 rfl rfl ho27 hS (by simp; omega) hX27.size rfl ?_
    intro v29 w29 ho29 hg29 _
    have hX29 : Ext w26 w29 := hX27.news (Chg.of_grown hg29) (fun k hk => Or.inr ((World.ownsRow.lt ho27 k hk.symm).1))
    obtain ⟨ao29, c29, rfl, hS29, hb29⟩ := ownsRow_form ho29
    refine W.call Try.call15 rfl (Of_ok _ _ _ _ hS29 (by rw [List.length_append, List.length_singleton]; omega)) rfl ?_
    rintro v30 w30 ⟨rfl, hX30⟩
    have e30 : ofNFrom 0 ([0] ++ xs) = ofNFrom 0 xs := by simp [ofNFrom]
    rw [e30]
    have hS : Bs w30 ao c xs := (Sl.ext ‹Bs w26 ao c xs› hX29).ext hX30
    refine W.assign rfl rfl ?_
    refine W.nil ?_
    refine At.thenCode ?_
    refine C.seq ?_
    refine C.region ?_
    refine W.move rfl rfl ?_
    refine W.move rfl rfl ?_
    refine W.call Try.call16 rfl (ROfN_ok _ _ _ _ hS (by omega)) rfl ?_
    rintro v33 w33 ⟨rfl, hX33⟩
    refine W.eqlU rfl rfl rfl ?_
    refine W.eqv (bT (rfl)) ?_
    refine W.move rfl rfl ?_
    refine W.wants rfl rfl rfl rfl ?_
    refine W.move rfl rfl ?_
    refine W.wants rfl rfl rfl rfl ?_
    refine W.move rfl rfl ?_
    refine W.wants rfl rfl rfl rfl ?_
    refine W.call Try.call13 rfl (Scal.Mul_ok _ _ _) rfl ?_
    rintro v38 w38 ⟨rfl, hX38⟩
    refine W.wants rfl rfl rfl rfl ?_
    refine W.move rfl rfl ?_
    refine W.wants rfl rfl rfl rfl ?_
    first | refine W.convU (M := 18446744073709551616) rfl Try.underlying5 Try.underlying22 rfl rfl (by omega) rfl ?_ | refine W.convUU (M := 18446744073709551616) rfl Try.underlying5 Try.underlying22 rfl rfl rfl ?_
    refine W.wants rfl rfl rfl rfl ?_
    refine W.call Try.call9 rfl (Scal.Add_ok _ _ _) rfl ?_
    rintro v w' ⟨rfl, rfl⟩
    refine W.wants rfl rfl rfl rfl ?_
    refine W.eqlU rfl rfl rfl ?_
    refine W.eqv (bT (rfl)) ?_
    refine W.pickT rfl rfl rfl ?_
    refine W.move rfl rfl ?_
    refine W.wants rfl rfl rfl rfl ?_
    refine W.move rfl rfl ?_
    refine W.wants rfl rfl rfl rfl ?_
    refine W.move rfl rfl ?_
    refine W.wants rfl rfl rfl rfl ?_
    refine W.eqlU rfl rfl rfl ?_
    refine W.eqv (bT (rfl)) ?_
    refine W.pickT rfl rfl rfl ?_
    refine W.move rfl rfl ?_
    refine W.wants rfl rfl rfl rfl ?_
    refine W.move rfl rfl ?_
    refine W.wants rfl rfl rfl rfl ?_
    refine W.lssU (n := 2305843009213693950) rfl rfl rfl ?_
    refine W.eqv (bT (hnl)) ?_
    refine W.pickT rfl rfl rfl ?_
    refine W.assign rfl rfl ?_
    refine W.nil ?_
    refine At.thenCode ?_
    refine C.ret ?_
    refine At.ret1 Try.results6 rfl ?_
    exact ⟨rfl, Ext.below (((((hX9.ext hX1920).ext hX2526).ext (hX29.ext hX30)).ext hX33).ext hX38)⟩
end Go.Proofs.Ytlbbngcmhlknoaa.Law7
