/- The walks of chapter 15's laws on roots, pairs, numbers, shares. -/
import Derived.Test.YtomfnficblnngaaSets2
namespace Go.Proofs.Ytomfnficblnngaa.Law15
open Go Go.RowKit Go.Proofs.Ytomfnficblnngaa.KW Go.Proofs.Ytomfnficblnngaa.Words Go.Proofs.Ytomfnficblnngaa.Sets
set_option linter.unusedVariables false
set_option linter.unusedSimpArgs false
set_option maxRecDepth 100000
theorem num_ok (e : Int) (w : World) : Ct Try.prog 36 #[.int .i64 e] w (fun v w' => v = .int .i64 e ∧ w = w') := by
  refine Ct.enter [(0, .int .i64 e)] Try.func36 rfl rfl rfl rfl ?_
  refine C.seq ?_
  refine C.region ?_
  refine W.assign rfl rfl ?_
  refine W.nil ?_
  refine At.thenCode ?_
  refine C.seq ?_
  refine C.region ?_
  refine W.move rfl rfl ?_
  refine W.assign rfl rfl ?_
  refine W.nil ?_
  refine At.thenCode ?_
  refine C.ret ?_
  refine At.ret1 Try.results36 rfl ?_
  exact ⟨rfl, rfl⟩
theorem set03 : setR 0 3 = [0, 1] := by decide
theorem ok03 : setE 0 3 = 0 := by decide
theorem root10 : IsRoot 10 3 := ⟨fun h => by omega, fun _ => by decide⟩
theorem alive_ok (w : World) : Ct Try.prog 33 #[] w (fun v w' => v = .bool true ∧ Ext w w') := by
  refine Ct.enter [] Try.func33 rfl rfl rfl rfl ?_
  refine C.seq ?_
  refine C.region ?_
  refine W.assign rfl rfl ?_
  refine W.nil ?_
  refine At.thenCode ?_
  refine C.seq ?_
  refine C.region ?_
  refine W.call Try.call34 rfl (Sets.Set_ok _ _ _ (by omega) (by omega)) rfl ?_
  rintro v4 w4 ⟨⟨ao4, c4, rfl, hS4, hfS4⟩, hX4⟩
  rw [set03] at hS4 ⊢
  rw [ok03]
  refine W.move rfl rfl ?_
  refine W.extract rfl rfl rfl ?_
  refine W.extract rfl rfl rfl ?_
  refine W.assign rfl rfl ?_
  refine W.assign rfl rfl ?_
  refine W.nil ?_
  refine At.thenCode ?_
  refine C.seq ?_
  refine C.region ?_
  refine W.move rfl rfl ?_
  refine W.call Try.call36 rfl (num_ok _ _) rfl ?_
  rintro v8 w8 ⟨rfl, rfl⟩
  refine W.eqlI rfl rfl rfl ?_
  refine W.eqv (bT (rfl)) ?_
  refine W.move rfl rfl ?_
  refine W.wants rfl rfl rfl rfl ?_
  refine W.move rfl rfl ?_
  refine W.wants rfl rfl rfl rfl ?_
  refine W.lenS rfl Try.underlying48 rfl ?_
  refine W.wants rfl rfl rfl rfl ?_
  refine W.eqlI rfl rfl rfl ?_
  refine W.eqv (bT (rfl)) ?_
  refine W.pickT rfl rfl rfl ?_
  refine W.move rfl rfl ?_
  refine W.wants rfl rfl rfl rfl ?_
  refine W.move rfl rfl ?_
  refine W.wants rfl rfl rfl rfl ?_
  refine W.indexS (i := 0) XI Try.underlying48 rfl hS4 rfl ⟨by decide, by decide⟩ rfl ?_
  intro ad17 _ _ hc17
  refine W.wants rfl rfl rfl rfl ?_
  refine W.load (v := .int .i64 0) rfl Try.underlying3 rfl (by have h := hc17 0 (.int .i64 0) rfl; rwa [add_zero'] at h) rfl ?_
  refine W.wants rfl rfl rfl rfl ?_
  refine W.eqlI rfl rfl rfl ?_
  refine W.eqv (bT (rfl)) ?_
  refine W.pickT rfl rfl rfl ?_
  refine W.move rfl rfl ?_
  refine W.wants rfl rfl rfl rfl ?_
  refine W.move rfl rfl ?_
  refine W.wants rfl rfl rfl rfl ?_
  refine W.indexS (i := 1) XI Try.underlying48 rfl hS4 rfl ⟨by decide, by decide⟩ rfl ?_
  intro ad23 _ _ hc23
  refine W.wants rfl rfl rfl rfl ?_
  refine W.load (v := .int .i64 1) rfl Try.underlying3 rfl (by have h := hc23 0 (.int .i64 1) rfl; rwa [add_zero'] at h) rfl ?_
  refine W.wants rfl rfl rfl rfl ?_
  refine W.eqlI rfl rfl rfl ?_
  refine W.eqv (bT (rfl)) ?_
  refine W.pickT rfl rfl rfl ?_
  refine W.move rfl rfl ?_
  refine W.wants rfl rfl rfl rfl ?_
  refine W.call Try.call50 rfl (Sets.Root_ok _ _ (by omega)) rfl ?_
  rintro v28 w28 ⟨r28, rfl, hr28, hrl28, rfl⟩
  obtain rfl := root_uniq hr28 root10
  refine W.wants rfl rfl rfl rfl ?_
  refine W.eqlI rfl rfl rfl ?_
  refine W.eqv (bT (rfl)) ?_
  refine W.pickT rfl rfl rfl ?_
  refine W.assign rfl rfl ?_
  refine W.nil ?_
  refine At.thenCode ?_
  refine C.ret ?_
  refine At.ret1 Try.results33 rfl ?_
  exact ⟨rfl, hX4⟩
theorem sides_pos {n : Int} (h : okN n) : 1 ≤ sidesN n := (sides_spec h).1
end Go.Proofs.Ytomfnficblnngaa.Law15
