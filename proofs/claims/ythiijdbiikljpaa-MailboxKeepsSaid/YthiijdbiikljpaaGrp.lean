/- The walks of package group and of the reference's functions of chapter 8. -/
import Derived.Test.YthiijdbiikljpaaModn
import Derived.Test.YthiijdbiikljpaaRgt
namespace Go.Proofs.Ythiijdbiikljpaa.Grp
open Go Go.RowKit Go.Proofs.Ythiijdbiikljpaa.KW Go.Proofs.Ythiijdbiikljpaa.Words Go.Proofs.Ythiijdbiikljpaa.Modp
set_option linter.unusedVariables false
set_option linter.unusedSimpArgs false
set_option maxRecDepth 100000

theorem E64 : Elem Try.prog 41 1 8 (.int .u64 0) := Elem.of (by kernel_rfl) rfl rfl
def timesV (x e : Nat) : Nat := if Rt x then powP x e else 0
theorem timesV_lt (x e : Nat) : timesV x e < 2305843009213693951 := by
  unfold timesV; split
  · exact powP_lt _ _
  · decide
def prodG : Nat → List Nat → Nat
  | a, [] => a
  | a, x :: r => if Rt x then prodG (a * x % 2305843009213693951) r else 0
theorem prodG_right {a x : Nat} {r : List Nat} (h : Rt x) : prodG a (x :: r) = prodG (a * x % 2305843009213693951) r := by rw [prodG, if_pos h]
theorem prodG_wrong {a x : Nat} {r : List Nat} (h : ¬ Rt x) : prodG a (x :: r) = 0 := by rw [prodG, if_neg h]
theorem drop_one {l : List Nat} {i : Nat} (h : i < l.length) : l.drop i = l[i] :: l.drop (i + 1) := (List.drop_eq_getElem_cons h)

theorem Times_ok (x e : Nat) (he : e < 18446744073709551616) (w : World) :
    Ct Try.prog 75 #[.int .u64 (x : Int), .int .u64 (e : Int)] w (fun v w' => v = .int .u64 ((timesV x e : Nat) : Int) ∧ w = w') := by
  refine Ct.enter [(0, .int .u64 (x : Int)), (1, .int .u64 (e : Int))] Try.func75 rfl rfl rfl rfl ?_
  refine C.seq ?_
  refine C.region ?_
  refine W.assign rfl rfl ?_
  refine W.nil ?_
  refine At.thenCode ?_
  refine C.seq ?_
  refine C.seq ?_
  refine C.region ?_
  refine W.move rfl rfl ?_
  refine W.call Try.call82 rfl (Grp.Right_ok _ _) rfl ?_
  rintro v w' ⟨rfl, rfl⟩
  first | refine W.notD rfl rfl ?_ | refine W.notB rfl rfl ?_
  refine W.nil ?_
  refine At.thenCode ?_
  first | refine C.condD rfl (fun c7 => ?_) (fun c7 => ?_) | refine C.cond rfl (fun c7 => ?_) (fun c7 => ?_)
  · refine C.seq ?_
    refine C.region ?_
    refine W.assign rfl rfl ?_
    refine W.nil ?_
    refine At.thenCode ?_
    refine C.ret ?_
    refine At.thenRet ?_
    refine At.ret1 Try.results75 rfl ?_
    exact ⟨by rw [timesV, if_neg c7]; rfl, rfl⟩
  · refine C.skip ?_
    refine At.thenCode ?_
    refine C.seq ?_
    refine C.region ?_
    refine W.move rfl rfl ?_
    refine W.move rfl rfl ?_
    refine W.call Try.call83 rfl (Modp.Pow_ok _ _ (by first | omega | decide) (by first | omega | decide) _) rfl ?_
    rintro v w' ⟨rfl, rfl⟩
    refine W.assign rfl rfl ?_
    refine W.nil ?_
    refine At.thenCode ?_
    refine C.ret ?_
    refine At.ret1 Try.results75 rfl ?_
    exact ⟨by rw [timesV, if_pos (by omega)], rfl⟩
theorem RTimes_ok (x e : Nat) (he : e < 18446744073709551616) (w : World) :
    Ct Try.prog 36 #[.int .u64 (x : Int), .int .u64 (e : Int)] w (fun v w' => v = .int .u64 ((timesV x e : Nat) : Int) ∧ w = w') := by
  refine Ct.enter [(0, .int .u64 (x : Int)), (1, .int .u64 (e : Int))] Try.func36 rfl rfl rfl rfl ?_
  refine C.seq ?_
  refine C.region ?_
  refine W.assign rfl rfl ?_
  refine W.nil ?_
  refine At.thenCode ?_
  refine C.seq ?_
  refine C.seq ?_
  refine C.region ?_
  refine W.move rfl rfl ?_
  refine W.call Try.call61 rfl (Grp.RRight_ok _ _) rfl ?_
  rintro v w' ⟨rfl, rfl⟩
  first | refine W.notD rfl rfl ?_ | refine W.notB rfl rfl ?_
  refine W.nil ?_
  refine At.thenCode ?_
  first | refine C.condD rfl (fun c7 => ?_) (fun c7 => ?_) | refine C.cond rfl (fun c7 => ?_) (fun c7 => ?_)
  · refine C.seq ?_
    refine C.region ?_
    refine W.assign rfl rfl ?_
    refine W.nil ?_
    refine At.thenCode ?_
    refine C.ret ?_
    refine At.thenRet ?_
    refine At.ret1 Try.results36 rfl ?_
    exact ⟨by rw [timesV, if_neg c7]; rfl, rfl⟩
  · refine C.skip ?_
    refine At.thenCode ?_
    refine C.seq ?_
    refine C.region ?_
    refine W.move rfl rfl ?_
    refine W.move rfl rfl ?_
    refine W.call Try.call62 rfl (Modp.PowP_ok _ _ (by first | omega | decide) (by first | omega | decide) _) rfl ?_
    rintro v w' ⟨rfl, rfl⟩
    refine W.assign rfl rfl ?_
    refine W.nil ?_
    refine At.thenCode ?_
    refine C.ret ?_
    refine At.ret1 Try.results36 rfl ?_
    exact ⟨by rw [timesV, if_pos (by omega)], rfl⟩
theorem Base_ok (e : Nat) (he : e < 18446744073709551616) (w : World) :
    Ct Try.prog 48 #[.int .u64 (e : Int)] w (fun v w' => v = .int .u64 ((timesV 37 e : Nat) : Int) ∧ w = w') := by
  refine Ct.enter [(0, .int .u64 (e : Int))] Try.func48 rfl rfl rfl rfl ?_
  refine C.seq ?_
  refine C.region ?_
  refine W.assign rfl rfl ?_
  refine W.nil ?_
  refine At.thenCode ?_
  refine C.seq ?_
  refine C.region ?_
  refine W.move rfl rfl ?_
  refine W.call Try.call75 rfl (Times_ok 37 _ he _) rfl ?_
  rintro v w' ⟨rfl, rfl⟩
  refine W.assign rfl rfl ?_
  refine W.nil ?_
  refine At.thenCode ?_
  refine C.ret ?_
  refine At.ret1 Try.results48 rfl ?_
  exact ⟨rfl, rfl⟩
theorem RBase_ok (e : Nat) (he : e < 18446744073709551616) (w : World) :
    Ct Try.prog 18 #[.int .u64 (e : Int)] w (fun v w' => v = .int .u64 ((timesV 37 e : Nat) : Int) ∧ w = w') := by
  refine Ct.enter [(0, .int .u64 (e : Int))] Try.func18 rfl rfl rfl rfl ?_
  refine C.seq ?_
  refine C.region ?_
  refine W.assign rfl rfl ?_
  refine W.nil ?_
  refine At.thenCode ?_
  refine C.seq ?_
  refine C.region ?_
  refine W.move rfl rfl ?_
  refine W.call Try.call36 rfl (RTimes_ok 37 _ he _) rfl ?_
  rintro v w' ⟨rfl, rfl⟩
  refine W.assign rfl rfl ?_
  refine W.nil ?_
  refine At.thenCode ?_
  refine C.ret ?_
  refine At.ret1 Try.results18 rfl ?_
  exact ⟨rfl, rfl⟩
end Go.Proofs.Ythiijdbiikljpaa.Grp
