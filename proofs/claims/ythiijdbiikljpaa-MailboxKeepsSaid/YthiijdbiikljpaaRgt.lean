/- Elements: what group.Right and the reference's Right tell. -/
import Derived.Test.YthiijdbiikljpaaWords
namespace Go.Proofs.Ythiijdbiikljpaa.Grp
open Go Go.RowKit Go.Proofs.Ythiijdbiikljpaa.KW Go.Proofs.Ythiijdbiikljpaa.Words
set_option linter.unusedVariables false
set_option linter.unusedSimpArgs false
set_option maxRecDepth 100000
/-- An element. -/
abbrev Rt (x : Nat) : Prop := 0 < x ∧ x < 2305843009213693951
theorem Right_ok (x : Nat) (w : World) :
    Ct Try.prog 82 #[.int .u64 (x : Int)] w (fun v w' => v = .bool (decide (Rt x)) ∧ w = w') := by
  refine Ct.enter [(0, .int .u64 (x : Int))] Try.func82 rfl rfl rfl rfl ?_
  refine C.seq ?_
  refine C.region ?_
  refine W.assign rfl rfl ?_
  refine W.nil ?_
  refine At.thenCode ?_
  refine C.seq ?_
  refine C.region ?_
  refine W.move rfl rfl ?_
  refine W.gtrU (n := 0) rfl rfl rfl ?_
  refine W.move rfl rfl ?_
  first | refine W.splitD (fun g5 => ?_) (fun g5 => ?_) | refine W.splitB (fun g5 => ?_) (fun g5 => ?_)
  · refine W.wants rfl rfl rfl rfl ?_
    refine W.move rfl rfl ?_
    refine W.wants rfl rfl rfl rfl ?_
    refine W.lssU (n := 2305843009213693951) rfl rfl rfl ?_
    refine W.pickT rfl rfl rfl ?_
    refine W.assign rfl rfl ?_
    refine W.nil ?_
    refine At.thenCode ?_
    refine C.ret ?_
    refine At.ret1 Try.results82 rfl ?_
    exact ⟨by congr 1; simp only [decide_eq_decide, eq_comm, Rt]; first | omega | (simp; omega), rfl⟩
  · refine W.skips rfl rfl rfl rfl rfl rfl ?_
    refine W.skips rfl rfl rfl rfl rfl rfl ?_
    refine W.pickF rfl rfl rfl ?_
    refine W.assign rfl rfl ?_
    refine W.nil ?_
    refine At.thenCode ?_
    refine C.ret ?_
    refine At.ret1 Try.results82 rfl ?_
    exact ⟨by congr 1; simp only [decide_eq_decide, eq_comm, Rt]; first | omega | (simp; omega), rfl⟩
theorem RRight_ok (x : Nat) (w : World) :
    Ct Try.prog 61 #[.int .u64 (x : Int)] w (fun v w' => v = .bool (decide (Rt x)) ∧ w = w') := by
  refine Ct.enter [(0, .int .u64 (x : Int))] Try.func61 rfl rfl rfl rfl ?_
  refine C.seq ?_
  refine C.region ?_
  refine W.assign rfl rfl ?_
  refine W.nil ?_
  refine At.thenCode ?_
  refine C.seq ?_
  refine C.region ?_
  refine W.move rfl rfl ?_
  refine W.geqU (n := 1) rfl rfl rfl ?_
  refine W.move rfl rfl ?_
  first | refine W.splitD (fun g5 => ?_) (fun g5 => ?_) | refine W.splitB (fun g5 => ?_) (fun g5 => ?_)
  · refine W.wants rfl rfl rfl rfl ?_
    refine W.move rfl rfl ?_
    refine W.wants rfl rfl rfl rfl ?_
    refine W.lssU (n := 2305843009213693951) rfl rfl rfl ?_
    refine W.pickT rfl rfl rfl ?_
    refine W.assign rfl rfl ?_
    refine W.nil ?_
    refine At.thenCode ?_
    refine C.ret ?_
    refine At.ret1 Try.results61 rfl ?_
    exact ⟨by congr 1; simp only [decide_eq_decide, eq_comm, Rt]; first | omega | (simp; omega), rfl⟩
  · refine W.skips rfl rfl rfl rfl rfl rfl ?_
    refine W.skips rfl rfl rfl rfl rfl rfl ?_
    refine W.pickF rfl rfl rfl ?_
    refine W.assign rfl rfl ?_
    refine W.nil ?_
    refine At.thenCode ?_
    refine C.ret ?_
    refine At.ret1 Try.results61 rfl ?_
    exact ⟨by congr 1; simp only [decide_eq_decide, eq_comm, Rt]; first | omega | (simp; omega), rfl⟩
end Go.Proofs.Ythiijdbiikljpaa.Grp
