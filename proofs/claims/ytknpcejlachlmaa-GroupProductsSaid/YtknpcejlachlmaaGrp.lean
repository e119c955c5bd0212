/- The walks of package group and of the reference's functions of chapter 8. -/
import Derived.Test.YtknpcejlachlmaaModn
import Derived.Test.YtknpcejlachlmaaWords
namespace Go.Proofs.Ytknpcejlachlmaa.Grp
open Go Go.RowKit Go.Proofs.Ytknpcejlachlmaa.KW Go.Proofs.Ytknpcejlachlmaa.Words Go.Proofs.Ytknpcejlachlmaa.Modp
set_option linter.unusedVariables false
set_option linter.unusedSimpArgs false
set_option maxRecDepth 100000

theorem E64 : Elem Try.prog 22 1 8 (.int .u64 0) := Elem.of (by kernel_rfl) rfl rfl
/-- An element. -/
abbrev Rt (x : Nat) : Prop := 0 < x ∧ x < 2305843009213693951
def timesV (x e : Nat) : Nat := if Rt x then powP x e else 0
theorem timesV_lt (x e : Nat) : timesV x e < 2305843009213693951 := by
  unfold timesV; split
  · exact powP_lt _ _
  · decide
def prodG : Nat → List Nat → Nat
  | a, [] => a
  | a, x :: r => if Rt x then prodG (a * x % 2305843009213693951) r else 0
theorem prodG_right {a x : Nat} {r : List Nat} (h : Rt x) : prodG a (x :: r) = prodG (a * x % 2305843009213693951) r := by rw [prodG, if_pos h]
theorem prodG_wrong {a x : Nat} {r : List Nat} (h : ¬ Rt x) : prodG a (x :: r) = 0 := by rw [prodG, if_neg h]
theorem drop_one {l : List Nat} {i : Nat} (h : i < l.length) : l.drop i = l[i] :: l.drop (i + 1) := (List.drop_eq_getElem_cons h)

theorem Right_ok (x : Nat) (w : World) :
    Ct Try.prog 24 #[.int .u64 (x : Int)] w (fun v w' => v = .bool (decide (Rt x)) ∧ w = w') := by
  refine Ct.enter [(0, .int .u64 (x : Int))] Try.func24 rfl rfl rfl rfl ?_
  refine C.seq ?_
  refine C.region ?_
  refine W.assign rfl rfl ?_
  refine W.nil ?_
  refine At.thenCode ?_
  refine C.seq ?_
  refine C.region ?_
  refine W.move rfl rfl ?_
  refine W.gtrU (n := 0) rfl rfl rfl ?_
  refine W.move rfl rfl ?_
  first | refine W.splitD (fun g5 => ?_) (fun g5 => ?_) | refine W.splitB (fun g5 => ?_) (fun g5 => ?_)
  · refine W.wants rfl rfl rfl rfl ?_
    refine W.move rfl rfl ?_
    refine W.wants rfl rfl rfl rfl ?_
    refine W.lssU (n := 2305843009213693951) rfl rfl rfl ?_
    refine W.pickT rfl rfl rfl ?_
    refine W.assign rfl rfl ?_
    refine W.nil ?_
    refine At.thenCode ?_
    refine C.ret ?_
    refine At.ret1 Try.results24 rfl ?_
    exact ⟨by congr 1; simp only [decide_eq_decide, eq_comm, Rt]; first | omega | (simp; omega), rfl⟩
  · refine W.skips rfl rfl rfl rfl rfl rfl ?_
    refine W.skips rfl rfl rfl rfl rfl rfl ?_
    refine W.pickF rfl rfl rfl ?_
    refine W.assign rfl rfl ?_
    refine W.nil ?_
    refine At.thenCode ?_
    refine C.ret ?_
    refine At.ret1 Try.results24 rfl ?_
    exact ⟨by congr 1; simp only [decide_eq_decide, eq_comm, Rt]; first | omega | (simp; omega), rfl⟩
theorem RRight_ok (x : Nat) (w : World) :
    Ct Try.prog 25 #[.int .u64 (x : Int)] w (fun v w' => v = .bool (decide (Rt x)) ∧ w = w') := by
  refine Ct.enter [(0, .int .u64 (x : Int))] Try.func25 rfl rfl rfl rfl ?_
  refine C.seq ?_
  refine C.region ?_
  refine W.assign rfl rfl ?_
  refine W.nil ?_
  refine At.thenCode ?_
  refine C.seq ?_
  refine C.region ?_
  refine W.move rfl rfl ?_
  refine W.geqU (n := 1) rfl rfl rfl ?_
  refine W.move rfl rfl ?_
  first | refine W.splitD (fun g5 => ?_) (fun g5 => ?_) | refine W.splitB (fun g5 => ?_) (fun g5 => ?_)
  · refine W.wants rfl rfl rfl rfl ?_
    refine W.move rfl rfl ?_
    refine W.wants rfl rfl rfl rfl ?_
    refine W.lssU (n := 2305843009213693951) rfl rfl rfl ?_
    refine W.pickT rfl rfl rfl ?_
    refine W.assign rfl rfl ?_
    refine W.nil ?_
    refine At.thenCode ?_
    refine C.ret ?_
    refine At.ret1 Try.results25 rfl ?_
    exact ⟨by congr 1; simp only [decide_eq_decide, eq_comm, Rt]; first | omega | (simp; omega), rfl⟩
  · refine W.skips rfl rfl rfl rfl rfl rfl ?_
    refine W.skips rfl rfl rfl rfl rfl rfl ?_
    refine W.pickF rfl rfl rfl ?_
    refine W.assign rfl rfl ?_
    refine W.nil ?_
    refine At.thenCode ?_
    refine C.ret ?_
    refine At.ret1 Try.results25 rfl ?_
    exact ⟨by congr 1; simp only [decide_eq_decide, eq_comm, Rt]; first | omega | (simp; omega), rfl⟩
theorem Times_ok (x e : Nat) (he : e < 18446744073709551616) (w : World) :
    Ct Try.prog 26 #[.int .u64 (x : Int), .int .u64 (e : Int)] w (fun v w' => v = .int .u64 ((timesV x e : Nat) : Int) ∧ w = w') := by
  refine Ct.enter [(0, .int .u64 (x : Int)), (1, .int .u64 (e : Int))] Try.func26 rfl rfl rfl rfl ?_
  refine C.seq ?_
  refine C.region ?_
  refine W.assign rfl rfl ?_
  refine W.nil ?_
  refine At.thenCode ?_
  refine C.seq ?_
  refine C.seq ?_
  refine C.region ?_
  refine W.move rfl rfl ?_
  refine W.call Try.call24 rfl (Grp.Right_ok _ _) rfl ?_
  rintro v w' ⟨rfl, rfl⟩
  first | refine W.notD rfl rfl ?_ | refine W.notB rfl rfl ?_
  refine W.nil ?_
  refine At.thenCode ?_
  first | refine C.condD rfl (fun c7 => ?_) (fun c7 => ?_) | refine C.cond rfl (fun c7 => ?_) (fun c7 => ?_)
  · refine C.seq ?_
    refine C.region ?_
    refine W.assign rfl rfl ?_
    refine W.nil ?_
    refine At.thenCode ?_
    refine C.ret ?_
    refine At.thenRet ?_
    refine At.ret1 Try.results26 rfl ?_
    exact ⟨by rw [timesV, if_neg c7]; rfl, rfl⟩
  · refine C.skip ?_
    refine At.thenCode ?_
    refine C.seq ?_
    refine C.region ?_
    refine W.move rfl rfl ?_
    refine W.move rfl rfl ?_
    refine W.call Try.call16 rfl (Modp.Pow_ok _ _ (by first | omega | decide) (by first | omega | decide) _) rfl ?_
    rintro v w' ⟨rfl, rfl⟩
    refine W.assign rfl rfl ?_
    refine W.nil ?_
    refine At.thenCode ?_
    refine C.ret ?_
    refine At.ret1 Try.results26 rfl ?_
    exact ⟨by rw [timesV, if_pos (by omega)], rfl⟩
theorem RTimes_ok (x e : Nat) (he : e < 18446744073709551616) (w : World) :
    Ct Try.prog 27 #[.int .u64 (x : Int), .int .u64 (e : Int)] w (fun v w' => v = .int .u64 ((timesV x e : Nat) : Int) ∧ w = w') := by
  refine Ct.enter [(0, .int .u64 (x : Int)), (1, .int .u64 (e : Int))] Try.func27 rfl rfl rfl rfl ?_
  refine C.seq ?_
  refine C.region ?_
  refine W.assign rfl rfl ?_
  refine W.nil ?_
  refine At.thenCode ?_
  refine C.seq ?_
  refine C.seq ?_
  refine C.region ?_
  refine W.move rfl rfl ?_
  refine W.call Try.call25 rfl (Grp.RRight_ok _ _) rfl ?_
  rintro v w' ⟨rfl, rfl⟩
  first | refine W.notD rfl rfl ?_ | refine W.notB rfl rfl ?_
  refine W.nil ?_
  refine At.thenCode ?_
  first | refine C.condD rfl (fun c7 => ?_) (fun c7 => ?_) | refine C.cond rfl (fun c7 => ?_) (fun c7 => ?_)
  · refine C.seq ?_
    refine C.region ?_
    refine W.assign rfl rfl ?_
    refine W.nil ?_
    refine At.thenCode ?_
    refine C.ret ?_
    refine At.thenRet ?_
    refine At.ret1 Try.results27 rfl ?_
    exact ⟨by rw [timesV, if_neg c7]; rfl, rfl⟩
  · refine C.skip ?_
    refine At.thenCode ?_
    refine C.seq ?_
    refine C.region ?_
    refine W.move rfl rfl ?_
    refine W.move rfl rfl ?_
    refine W.call Try.call21 rfl (Modp.PowP_ok _ _ (by first | omega | decide) (by first | omega | decide) _) rfl ?_
    rintro v w' ⟨rfl, rfl⟩
    refine W.assign rfl rfl ?_
    refine W.nil ?_
    refine At.thenCode ?_
    refine C.ret ?_
    refine At.ret1 Try.results27 rfl ?_
    exact ⟨by rw [timesV, if_pos (by omega)], rfl⟩
theorem Base_ok (e : Nat) (he : e < 18446744073709551616) (w : World) :
    Ct Try.prog 28 #[.int .u64 (e : Int)] w (fun v w' => v = .int .u64 ((timesV 37 e : Nat) : Int) ∧ w = w') := by
  refine Ct.enter [(0, .int .u64 (e : Int))] Try.func28 rfl rfl rfl rfl ?_
  refine C.seq ?_
  refine C.region ?_
  refine W.assign rfl rfl ?_
  refine W.nil ?_
  refine At.thenCode ?_
  refine C.seq ?_
  refine C.region ?_
  refine W.move rfl rfl ?_
  refine W.call Try.call26 rfl (Times_ok 37 _ he _) rfl ?_
  rintro v w' ⟨rfl, rfl⟩
  refine W.assign rfl rfl ?_
  refine W.nil ?_
  refine At.thenCode ?_
  refine C.ret ?_
  refine At.ret1 Try.results28 rfl ?_
  exact ⟨rfl, rfl⟩
theorem RBase_ok (e : Nat) (he : e < 18446744073709551616) (w : World) :
    Ct Try.prog 29 #[.int .u64 (e : Int)] w (fun v w' => v = .int .u64 ((timesV 37 e : Nat) : Int) ∧ w = w') := by
  refine Ct.enter [(0, .int .u64 (e : Int))] Try.func29 rfl rfl rfl rfl ?_
  refine C.seq ?_
  refine C.region ?_
  refine W.assign rfl rfl ?_
  refine W.nil ?_
  refine At.thenCode ?_
  refine C.seq ?_
  refine C.region ?_
  refine W.move rfl rfl ?_
  refine W.call Try.call27 rfl (RTimes_ok 37 _ he _) rfl ?_
  rintro v w' ⟨rfl, rfl⟩
  refine W.assign rfl rfl ?_
  refine W.nil ?_
  refine At.thenCode ?_
  refine C.ret ?_
  refine At.ret1 Try.results29 rfl ?_
  exact ⟨rfl, rfl⟩
theorem Bytes_ok (x : Nat) (w : World) :
    Ct Try.prog 30 #[.int .u64 (x : Int)] w (fun v w' => Ow w' w.heap.size 5 v (be64 x) ∧ Ext w w') := by
  refine Ct.enter [(0, .int .u64 (x : Int))] Try.func30 rfl rfl rfl rfl ?_
  refine C.seq ?_
  refine C.region ?_
  refine W.assign rfl rfl ?_
  refine W.nil ?_
  refine At.thenCode ?_
  refine C.seq ?_
  refine C.region ?_
  refine W.move rfl rfl ?_
  refine W.call Try.call38 rfl (Put64_ok none 0 [] x _ (Sl.none _ 1) (by decide)) rfl ?_
  rintro v4 w4 ⟨hO4, hX4⟩
  refine W.assign rfl rfl ?_
  refine W.nil ?_
  refine At.thenCode ?_
  refine C.ret ?_
  refine At.ret1 Try.results30 rfl ?_
  exact ⟨hO4, hX4⟩
theorem RBytes_ok (x : Nat) (w : World) :
    Ct Try.prog 31 #[.int .u64 (x : Int)] w (fun v w' => Ow w' w.heap.size 5 v (be64 x) ∧ Ext w w') := by
  refine Ct.enter [(0, .int .u64 (x : Int))] Try.func31 rfl rfl rfl rfl ?_
  refine C.seq ?_
  refine C.region ?_
  refine W.assign rfl rfl ?_
  refine W.nil ?_
  refine At.thenCode ?_
  refine C.seq ?_
  refine C.region ?_
  refine W.move rfl rfl ?_
  refine W.call Try.call39 rfl (RPut64_ok none 0 [] x _ (Sl.none _ 1) (by decide)) rfl ?_
  rintro v4 w4 ⟨hO4, hX4⟩
  refine W.assign rfl rfl ?_
  refine W.nil ?_
  refine At.thenCode ?_
  refine C.ret ?_
  refine At.ret1 Try.results31 rfl ?_
  exact ⟨hO4, hX4⟩
theorem Product_ok (ao : Option Addr) (c : Nat) (xs : List Nat) (w : World) (hS : Us w ao c xs) (hl : xs.length ≤ 1000) (hb : ∀ x ∈ xs, x < 18446744073709551616) :
    Ct Try.prog 32 #[.slice ao xs.length c] w (fun v w' => v = .int .u64 ((prodG 1 xs : Nat) : Int) ∧ w = w') := by
  refine Ct.enter [(0, .slice ao xs.length c)] Try.func32 rfl rfl rfl rfl ?_
  refine C.seq ?_
  refine C.region ?_
  refine W.assign rfl rfl ?_
  refine W.nil ?_
  refine At.thenCode ?_
  refine C.seq ?_
  refine C.region ?_
  refine W.assign rfl rfl ?_
  refine W.nil ?_
  refine At.thenCode ?_
  refine C.seq ?_
  refine C.seq ?_
  refine C.region ?_
  refine W.move rfl rfl ?_
  refine W.lenS rfl Try.underlying33 rfl ?_
  refine W.move rfl rfl ?_
  refine W.nil ?_
  refine At.thenCode ?_
  refine C.block ?_
  refine C.loop (X := Nat × Nat) (fun x_ => [(3, .int .u64 (x_.2 : Int)), (6, .slice ao xs.length c), (7, .int .i64 (xs.length : Int)), (8, .int .i64 (x_.1 : Int))]) (fun x_ w1 => w = w1 ∧ x_.1 ≤ xs.length ∧ x_.2 < 18446744073709551616 ∧ prodG x_.2 (xs.drop x_.1) = prodG 1 xs) (fun x_ => xs.length - x_.1) (0, 1) (Sub.cons (rfl) (Sub.cons (rfl) (Sub.cons (rfl) (Sub.cons (rfl) (Sub.nil))))) ?start1 ?_
  case start1 =>
    show w = _ ∧ (0) ≤ xs.length ∧ (1) < 18446744073709551616 ∧ prodG (1) (xs.drop (0)) = prodG 1 xs
    exact ⟨rfl, by omega, by decide, rfl⟩
  rintro ⟨i, a⟩ w1 hI_
  replace hI_ : w = w1 ∧ i ≤ xs.length ∧ a < 18446744073709551616 ∧ prodG a (xs.drop i) = prodG 1 xs := hI_
  obtain ⟨rfl, hi, ha, hp⟩ := hI_
  refine C.weaken (l' := [(3, .int .u64 (a : Int)), (6, .slice ao xs.length c), (7, .int .i64 (xs.length : Int)), (8, .int .i64 (i : Int))]) (Sub.cons (rfl) (Sub.cons (rfl) (Sub.cons (rfl) (Sub.cons (rfl) (Sub.nil))))) ?_
  refine C.seq ?_
  refine C.region ?_
  refine W.lssI rfl rfl rfl ?_
  refine W.nil ?_
  refine At.thenCode ?_
  refine C.seq ?_
  first | refine C.condD rfl (fun c9 => ?_) (fun c9 => ?_) | refine C.cond rfl (fun c9 => ?_) (fun c9 => ?_)
  · refine C.skip ?_
    refine At.thenCode ?_
    refine C.seq ?_
    refine C.block ?_
    refine C.seq ?_
    refine C.region ?_
    have hlt : i < xs.length := by omega
    refine W.idx (v := .int .u64 ((xs[i]'hlt : Nat) : Int)) E64 Try.underlying33 Try.underlying22 rfl rfl hS rfl (by omega) ?_ rfl rfl ?_
    · rw [Int.toNat_natCast]
      exact get_u64 hlt
    intro p10
    have hx := hb _ (List.getElem_mem hlt)
    rw [drop_one hlt] at hp
    generalize xs[i]'hlt = x at *
    -- read with the address
    refine W.assign rfl rfl ?_
    refine W.nil ?_
    refine At.thenCode ?_
    refine C.seq ?_
    refine C.seq ?_
    refine C.region ?_
    refine W.move rfl rfl ?_
    refine W.call Try.call24 rfl (Grp.Right_ok _ _) rfl ?_
    rintro v w' ⟨rfl, rfl⟩
    first | refine W.notD rfl rfl ?_ | refine W.notB rfl rfl ?_
    refine W.nil ?_
    refine At.thenCode ?_
    first | refine C.condD rfl (fun c14 => ?_) (fun c14 => ?_) | refine C.cond rfl (fun c14 => ?_) (fun c14 => ?_)
    · refine C.seq ?_
      refine C.region ?_
      refine W.assign rfl rfl ?_
      refine W.nil ?_
      refine At.thenCode ?_
      refine C.ret ?_
      refine At.thenRet ?_
      refine At.blockRet ?_
      refine At.thenRet ?_
      refine At.thenRet ?_
      refine At.blockRet ?_
      refine At.thenRet ?_
      refine At.ret1 Try.results32 rfl ?_
      rw [prodG_wrong (by omega)] at hp
      exact ⟨by rw [← hp]; rfl, rfl⟩
    · refine C.skip ?_
      refine At.thenCode ?_
      refine C.region ?_
      refine W.move rfl rfl ?_
      refine W.move rfl rfl ?_
      refine W.call Try.call12 rfl (Modp.Mul_ok _ _ (by first | omega | decide) (by first | omega | decide) _) rfl ?_
      rintro v w' ⟨rfl, rfl⟩
      refine W.assign rfl rfl ?_
      refine W.nil ?_
      refine At.blockNormal ?_
      refine At.thenCode ?_
      refine C.region ?_
      first | refine W.addI rfl rfl (by omega) rfl ?_ | refine W.addW rfl rfl rfl ?_
      refine W.move rfl rfl ?_
      refine W.nil ?_
      refine At.thenRound (i + 1, a * x % 2305843009213693951) (Sub.cons (rfl) (Sub.cons (rfl) (Sub.cons (rfl) (Sub.cons (look_eq rfl (by rw [show (i : Int) + 1 = ((i + 1 : Nat) : Int) by omega])) (Sub.nil))))) (show w = _ ∧ (i + 1) ≤ xs.length ∧ (a * x % 2305843009213693951) < 18446744073709551616 ∧ prodG (a * x % 2305843009213693951) (xs.drop (i + 1)) = prodG 1 xs from ?_) (show xs.length - (i + 1) < xs.length - i from ?_)
      · rw [prodG_right (by omega)] at hp
        exact ⟨rfl, by omega, by omega, hp⟩
      · omega
  · refine C.exit ?_
    refine At.thenExit ?_
    refine At.thenExit ?_
    refine At.blockSelf ?_
    refine At.thenCode ?_
    refine C.seq ?_
    refine C.region ?_
    refine W.move rfl rfl ?_
    refine W.assign rfl rfl ?_
    refine W.nil ?_
    refine At.thenCode ?_
    refine C.ret ?_
    refine At.ret1 Try.results32 rfl ?_
    rw [List.drop_eq_nil_of_le (by omega)] at hp
    exact ⟨by rw [← hp]; rfl, rfl⟩
theorem RProduct_ok (ao : Option Addr) (c : Nat) (xs : List Nat) (w : World) (hS : Us w ao c xs) (hl : xs.length ≤ 1000) (hb : ∀ x ∈ xs, x < 18446744073709551616) :
    Ct Try.prog 33 #[.slice ao xs.length c] w (fun v w' => v = .int .u64 ((prodG 1 xs : Nat) : Int) ∧ w = w') := by
  refine Ct.enter [(0, .slice ao xs.length c)] Try.func33 rfl rfl rfl rfl ?_
  refine C.seq ?_
  refine C.region ?_
  refine W.assign rfl rfl ?_
  refine W.nil ?_
  refine At.thenCode ?_
  refine C.seq ?_
  refine C.region ?_
  refine W.assign rfl rfl ?_
  refine W.nil ?_
  refine At.thenCode ?_
  refine C.seq ?_
  refine C.seq ?_
  refine C.region ?_
  refine W.assign rfl rfl ?_
  refine W.nil ?_
  refine At.thenCode ?_
  refine C.block ?_
  refine C.loop (X := Nat × Nat) (fun x_ => [(0, .slice ao xs.length c), (3, .int .u64 (x_.2 : Int)), (4, .int .i64 (x_.1 : Int))]) (fun x_ w1 => w = w1 ∧ x_.1 ≤ xs.length ∧ x_.2 < 18446744073709551616 ∧ prodG x_.2 (xs.drop x_.1) = prodG 1 xs) (fun x_ => xs.length - x_.1) (0, 1) (Sub.cons (rfl) (Sub.cons (rfl) (Sub.cons (rfl) (Sub.nil)))) ?start1 ?_
  case start1 =>
    show w = _ ∧ (0) ≤ xs.length ∧ (1) < 18446744073709551616 ∧ prodG (1) (xs.drop (0)) = prodG 1 xs
    exact ⟨rfl, by omega, by decide, rfl⟩
  rintro ⟨i, a⟩ w1 hI_
  replace hI_ : w = w1 ∧ i ≤ xs.length ∧ a < 18446744073709551616 ∧ prodG a (xs.drop i) = prodG 1 xs := hI_
  obtain ⟨rfl, hi, ha, hp⟩ := hI_
  refine C.weaken (l' := [(0, .slice ao xs.length c), (3, .int .u64 (a : Int)), (4, .int .i64 (i : Int))]) (Sub.cons (rfl) (Sub.cons (rfl) (Sub.cons (rfl) (Sub.nil)))) ?_
  refine C.seq ?_
  refine C.seq ?_
  refine C.region ?_
  refine W.move rfl rfl ?_
  refine W.move rfl rfl ?_
  refine W.lenS rfl Try.underlying33 rfl ?_
  refine W.lssI rfl rfl rfl ?_
  refine W.nil ?_
  refine At.thenCode ?_
  first | refine C.condD rfl (fun c8 => ?_) (fun c8 => ?_) | refine C.cond rfl (fun c8 => ?_) (fun c8 => ?_)
  · refine C.skip ?_
    refine At.thenCode ?_
    refine C.seq ?_
    refine C.block ?_
    refine C.seq ?_
    refine C.seq ?_
    refine C.region ?_
    refine W.move rfl rfl ?_
    refine W.move rfl rfl ?_
    have hlt : i < xs.length := by omega
    obtain ⟨x, hxv⟩ : ∃ x, x = xs[i]'hlt := ⟨_, rfl⟩
    have hx := hb _ (List.getElem_mem hlt)
    rw [drop_one hlt, ← hxv] at hp
    rw [← hxv] at hx
    refine W.idx (v := .int .u64 ((x : Nat) : Int)) E64 Try.underlying33 Try.underlying22 rfl rfl hS rfl (by omega) ?_ rfl rfl ?_
    · rw [Int.toNat_natCast, hxv]
      exact get_u64 hlt
    intro p13
    -- read with the address
    refine W.call Try.call25 rfl (Grp.RRight_ok _ _) rfl ?_
    rintro v w' ⟨rfl, rfl⟩
    first | refine W.notD rfl rfl ?_ | refine W.notB rfl rfl ?_
    refine W.nil ?_
    refine At.thenCode ?_
    first | refine C.condD rfl (fun c16 => ?_) (fun c16 => ?_) | refine C.cond rfl (fun c16 => ?_) (fun c16 => ?_)
    · refine C.seq ?_
      refine C.region ?_
      refine W.assign rfl rfl ?_
      refine W.nil ?_
      refine At.thenCode ?_
      refine C.ret ?_
      refine At.thenRet ?_
      refine At.blockRet ?_
      refine At.thenRet ?_
      refine At.thenRet ?_
      refine At.blockRet ?_
      refine At.thenRet ?_
      refine At.ret1 Try.results33 rfl ?_
      rw [prodG_wrong (by omega)] at hp
      exact ⟨by rw [← hp]; rfl, rfl⟩
    · refine C.skip ?_
      refine At.thenCode ?_
      refine C.region ?_
      refine W.move rfl rfl ?_
      refine W.move rfl rfl ?_
      refine W.move rfl rfl ?_
      refine W.idx (v := .int .u64 ((x : Nat) : Int)) E64 Try.underlying33 Try.underlying22 rfl rfl hS rfl (by omega) ?_ rfl rfl ?_
      · rw [Int.toNat_natCast, hxv]
        exact get_u64 hlt
      intro p20
      -- read with the address
      refine W.call Try.call20 rfl (Modp.MulP_ok _ _ (by first | omega | decide) (by first | omega | decide) _) rfl ?_
      rintro v w' ⟨rfl, rfl⟩
      refine W.assign rfl rfl ?_
      refine W.nil ?_
      refine At.blockNormal ?_
      refine At.thenCode ?_
      refine C.region ?_
      refine W.move rfl rfl ?_
      first | refine W.addI rfl rfl (by omega) rfl ?_ | refine W.addW rfl rfl rfl ?_
      refine W.assign rfl rfl ?_
      refine W.nil ?_
      refine At.thenRound (i + 1, a * x % 2305843009213693951) (Sub.cons (rfl) (Sub.cons (rfl) (Sub.cons (look_eq rfl (by rw [show (i : Int) + 1 = ((i + 1 : Nat) : Int) by omega])) (Sub.nil)))) (show w = _ ∧ (i + 1) ≤ xs.length ∧ (a * x % 2305843009213693951) < 18446744073709551616 ∧ prodG (a * x % 2305843009213693951) (xs.drop (i + 1)) = prodG 1 xs from ?_) (show xs.length - (i + 1) < xs.length - i from ?_)
      · rw [prodG_right (by omega)] at hp
        exact ⟨rfl, by omega, by omega, hp⟩
      · omega
  · refine C.exit ?_
    refine At.thenExit ?_
    refine At.thenExit ?_
    refine At.blockSelf ?_
    refine At.thenCode ?_
    refine C.seq ?_
    refine C.region ?_
    refine W.move rfl rfl ?_
    refine W.assign rfl rfl ?_
    refine W.nil ?_
    refine At.thenCode ?_
    refine C.ret ?_
    refine At.ret1 Try.results33 rfl ?_
    rw [List.drop_eq_nil_of_le (by omega)] at hp
    exact ⟨by rw [← hp]; rfl, rfl⟩
end Go.Proofs.Ytknpcejlachlmaa.Grp
