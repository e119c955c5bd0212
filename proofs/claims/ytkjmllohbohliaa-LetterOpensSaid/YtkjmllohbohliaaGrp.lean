/- The walks of package group and of the reference's functions of chapter 8. -/
import Derived.Test.YtkjmllohbohliaaModn
import Derived.Test.YtkjmllohbohliaaRgt
namespace Go.Proofs.Ytkjmllohbohliaa.Grp
open Go Go.RowKit Go.Proofs.Ytkjmllohbohliaa.KW Go.Proofs.Ytkjmllohbohliaa.Words Go.Proofs.Ytkjmllohbohliaa.Modp
set_option linter.unusedVariables false
set_option linter.unusedSimpArgs false
set_option maxRecDepth 100000

theorem E64 : Elem Try.prog 32 1 8 (.int .u64 0) := Elem.of (by kernel_rfl) rfl rfl
def timesV (x e : Nat) : Nat := if Rt x then powP x e else 0
theorem timesV_lt (x e : Nat) : timesV x e < 2305843009213693951 := by
  unfold timesV; split
  · exact powP_lt _ _
  · decide
def prodG : Nat → List Nat → Nat
  | a, [] => a
  | a, x :: r => if Rt x then prodG (a * x % 2305843009213693951) r else 0
theorem prodG_right {a x : Nat} {r : List Nat} (h : Rt x) : prodG a (x :: r) = prodG (a * x % 2305843009213693951) r := by rw [prodG, if_pos h]
theorem prodG_wrong {a x : Nat} {r : List Nat} (h : ¬ Rt x) : prodG a (x :: r) = 0 := by rw [prodG, if_neg h]
theorem drop_one {l : List Nat} {i : Nat} (h : i < l.length) : l.drop i = l[i] :: l.drop (i + 1) := (List.drop_eq_getElem_cons h)

theorem Times_ok (x e : Nat) (he : e < 18446744073709551616) (w : World) :
    Ct Try.prog 64 #[.int .u64 (x : Int), .int .u64 (e : Int)] w (fun v w' => v = .int .u64 ((timesV x e : Nat) : Int) ∧ w = w') := by
  refine Ct.enter [(0, .int .u64 (x : Int)), (1, .int .u64 (e : Int))] Try.func64 rfl rfl rfl rfl ?_
  refine C.seq ?_
  refine C.region ?_
  refine W.assign rfl rfl ?_
  refine W.nil ?_
  refine At.thenCode ?_
  refine C.seq ?_
  refine C.seq ?_
  refine C.region ?_
  refine W.move rfl rfl ?_
  refine W.call Try.call50 rfl (Grp.Right_ok _ _) rfl ?_
  rintro v w' ⟨rfl, rfl⟩
  first | refine W.notD rfl rfl ?_ | refine W.notB rfl rfl ?_
  refine W.nil ?_
  refine At.thenCode ?_
  first | refine C.condD rfl (fun c7 => ?_) (fun c7 => ?_) | refine C.cond rfl (fun c7 => ?_) (fun c7 => ?_)
  · refine C.seq ?_
    refine C.region ?_
    refine W.assign rfl rfl ?_
    refine W.nil ?_
    refine At.thenCode ?_
    refine C.ret ?_
    refine At.thenRet ?_
    refine At.ret1 Try.results64 rfl ?_
    exact ⟨by rw [timesV, if_neg c7]; rfl, rfl⟩
  · refine C.skip ?_
    refine At.thenCode ?_
    refine C.seq ?_
    refine C.region ?_
    refine W.move rfl rfl ?_
    refine W.move rfl rfl ?_
    refine W.call Try.call89 rfl (Modp.Pow_ok _ _ (by first | omega | decide) (by first | omega | decide) _) rfl ?_
    rintro v w' ⟨rfl, rfl⟩
    refine W.assign rfl rfl ?_
    refine W.nil ?_
    refine At.thenCode ?_
    refine C.ret ?_
    refine At.ret1 Try.results64 rfl ?_
    exact ⟨by rw [timesV, if_pos (by omega)], rfl⟩
theorem RTimes_ok (x e : Nat) (he : e < 18446744073709551616) (w : World) :
    Ct Try.prog 39 #[.int .u64 (x : Int), .int .u64 (e : Int)] w (fun v w' => v = .int .u64 ((timesV x e : Nat) : Int) ∧ w = w') := by
  refine Ct.enter [(0, .int .u64 (x : Int)), (1, .int .u64 (e : Int))] Try.func39 rfl rfl rfl rfl ?_
  refine C.seq ?_
  refine C.region ?_
  refine W.assign rfl rfl ?_
  refine W.nil ?_
  refine At.thenCode ?_
  refine C.seq ?_
  refine C.seq ?_
  refine C.region ?_
  refine W.move rfl rfl ?_
  refine W.call Try.call55 rfl (Grp.RRight_ok _ _) rfl ?_
  rintro v w' ⟨rfl, rfl⟩
  first | refine W.notD rfl rfl ?_ | refine W.notB rfl rfl ?_
  refine W.nil ?_
  refine At.thenCode ?_
  first | refine C.condD rfl (fun c7 => ?_) (fun c7 => ?_) | refine C.cond rfl (fun c7 => ?_) (fun c7 => ?_)
  · refine C.seq ?_
    refine C.region ?_
    refine W.assign rfl rfl ?_
    refine W.nil ?_
    refine At.thenCode ?_
    refine C.ret ?_
    refine At.thenRet ?_
    refine At.ret1 Try.results39 rfl ?_
    exact ⟨by rw [timesV, if_neg c7]; rfl, rfl⟩
  · refine C.skip ?_
    refine At.thenCode ?_
    refine C.seq ?_
    refine C.region ?_
    refine W.move rfl rfl ?_
    refine W.move rfl rfl ?_
    refine W.call Try.call67 rfl (Modp.PowP_ok _ _ (by first | omega | decide) (by first | omega | decide) _) rfl ?_
    rintro v w' ⟨rfl, rfl⟩
    refine W.assign rfl rfl ?_
    refine W.nil ?_
    refine At.thenCode ?_
    refine C.ret ?_
    refine At.ret1 Try.results39 rfl ?_
    exact ⟨by rw [timesV, if_pos (by omega)], rfl⟩
theorem Base_ok (e : Nat) (he : e < 18446744073709551616) (w : World) :
    Ct Try.prog 45 #[.int .u64 (e : Int)] w (fun v w' => v = .int .u64 ((timesV 37 e : Nat) : Int) ∧ w = w') := by
  refine Ct.enter [(0, .int .u64 (e : Int))] Try.func45 rfl rfl rfl rfl ?_
  refine C.seq ?_
  refine C.region ?_
  refine W.assign rfl rfl ?_
  refine W.nil ?_
  refine At.thenCode ?_
  refine C.seq ?_
  refine C.region ?_
  refine W.move rfl rfl ?_
  refine W.call Try.call64 rfl (Times_ok 37 _ he _) rfl ?_
  rintro v w' ⟨rfl, rfl⟩
  refine W.assign rfl rfl ?_
  refine W.nil ?_
  refine At.thenCode ?_
  refine C.ret ?_
  refine At.ret1 Try.results45 rfl ?_
  exact ⟨rfl, rfl⟩
theorem RBase_ok (e : Nat) (he : e < 18446744073709551616) (w : World) :
    Ct Try.prog 19 #[.int .u64 (e : Int)] w (fun v w' => v = .int .u64 ((timesV 37 e : Nat) : Int) ∧ w = w') := by
  refine Ct.enter [(0, .int .u64 (e : Int))] Try.func19 rfl rfl rfl rfl ?_
  refine C.seq ?_
  refine C.region ?_
  refine W.assign rfl rfl ?_
  refine W.nil ?_
  refine At.thenCode ?_
  refine C.seq ?_
  refine C.region ?_
  refine W.move rfl rfl ?_
  refine W.call Try.call39 rfl (RTimes_ok 37 _ he _) rfl ?_
  rintro v w' ⟨rfl, rfl⟩
  refine W.assign rfl rfl ?_
  refine W.nil ?_
  refine At.thenCode ?_
  refine C.ret ?_
  refine At.ret1 Try.results19 rfl ?_
  exact ⟨rfl, rfl⟩
theorem Bytes_ok (x : Nat) (w : World) :
    Ct Try.prog 44 #[.int .u64 (x : Int)] w (fun v w' => Ow w' w.heap.size 5 v (be64 x) ∧ Ext w w') := by
  refine Ct.enter [(0, .int .u64 (x : Int))] Try.func44 rfl rfl rfl rfl ?_
  refine C.seq ?_
  refine C.region ?_
  refine W.assign rfl rfl ?_
  refine W.nil ?_
  refine At.thenCode ?_
  refine C.seq ?_
  refine C.region ?_
  refine W.move rfl rfl ?_
  refine W.call Try.call42 rfl (Put64_ok none 0 [] x _ (Sl.none _ 1) (by decide)) rfl ?_
  rintro v4 w4 ⟨hO4, hX4⟩
  refine W.assign rfl rfl ?_
  refine W.nil ?_
  refine At.thenCode ?_
  refine C.ret ?_
  refine At.ret1 Try.results44 rfl ?_
  exact ⟨hO4, hX4⟩
theorem RBytes_ok (x : Nat) (w : World) :
    Ct Try.prog 48 #[.int .u64 (x : Int)] w (fun v w' => Ow w' w.heap.size 5 v (be64 x) ∧ Ext w w') := by
  refine Ct.enter [(0, .int .u64 (x : Int))] Try.func48 rfl rfl rfl rfl ?_
  refine C.seq ?_
  refine C.region ?_
  refine W.assign rfl rfl ?_
  refine W.nil ?_
  refine At.thenCode ?_
  refine C.seq ?_
  refine C.region ?_
  refine W.move rfl rfl ?_
  refine W.call Try.call58 rfl (RPut64_ok none 0 [] x _ (Sl.none _ 1) (by decide)) rfl ?_
  rintro v4 w4 ⟨hO4, hX4⟩
  refine W.assign rfl rfl ?_
  refine W.nil ?_
  refine At.thenCode ?_
  refine C.ret ?_
  refine At.ret1 Try.results48 rfl ?_
  exact ⟨hO4, hX4⟩
end Go.Proofs.Ytkjmllohbohliaa.Grp
