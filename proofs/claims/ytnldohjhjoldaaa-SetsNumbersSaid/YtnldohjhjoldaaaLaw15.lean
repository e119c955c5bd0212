/- The walks of chapter 15's laws on roots, pairs, numbers, shares. -/
import Derived.Test.YtnldohjhjoldaaaSets2
namespace Go.Proofs.Ytnldohjhjoldaaa.Law15
open Go Go.RowKit Go.Proofs.Ytnldohjhjoldaaa.KW Go.Proofs.Ytnldohjhjoldaaa.Words Go.Proofs.Ytnldohjhjoldaaa.Sets
set_option linter.unusedVariables false
set_option linter.unusedSimpArgs false
set_option maxRecDepth 100000
theorem num_ok (e : Int) (w : World) : Ct Try.prog 32 #[.int .i64 e] w (fun v w' => v = .int .i64 e ∧ w = w') := by
  refine Ct.enter [(0, .int .i64 e)] Try.func32 rfl rfl rfl rfl ?_
  refine C.seq ?_
  refine C.region ?_
  refine W.assign rfl rfl ?_
  refine W.nil ?_
  refine At.thenCode ?_
  refine C.seq ?_
  refine C.region ?_
  refine W.move rfl rfl ?_
  refine W.assign rfl rfl ?_
  refine W.nil ?_
  refine At.thenCode ?_
  refine C.ret ?_
  refine At.ret1 Try.results32 rfl ?_
  exact ⟨rfl, rfl⟩
theorem set03 : setR 0 3 = [0, 1] := by decide
theorem ok03 : setE 0 3 = 0 := by decide
theorem root10 : IsRoot 10 3 := ⟨fun h => by omega, fun _ => by decide⟩
theorem alive_ok (w : World) : Ct Try.prog 27 #[] w (fun v w' => v = .bool true ∧ Ext w w') := by
  refine Ct.enter [] Try.func27 rfl rfl rfl rfl ?_
  refine C.seq ?_
  refine C.region ?_
  refine W.assign rfl rfl ?_
  refine W.nil ?_
  refine At.thenCode ?_
  refine C.seq ?_
  refine C.region ?_
  refine W.call Try.call34 rfl (Sets.Set_ok _ _ _ (by omega) (by omega)) rfl ?_
  rintro v4 w4 ⟨⟨ao4, c4, rfl, hS4, hfS4⟩, hX4⟩
  rw [set03] at hS4 ⊢
  rw [ok03]
  refine W.move rfl rfl ?_
  refine W.extract rfl rfl rfl ?_
  refine W.extract rfl rfl rfl ?_
  refine W.assign rfl rfl ?_
  refine W.assign rfl rfl ?_
  refine W.nil ?_
  refine At.thenCode ?_
  refine C.seq ?_
  refine C.region ?_
  refine W.move rfl rfl ?_
  refine W.call Try.call32 rfl (num_ok _ _) rfl ?_
  rintro v8 w8 ⟨rfl, rfl⟩
  refine W.eqlI rfl rfl rfl ?_
  refine W.eqv (bT (rfl)) ?_
  refine W.move rfl rfl ?_
  refine W.wants rfl rfl rfl rfl ?_
  refine W.move rfl rfl ?_
  refine W.wants rfl rfl rfl rfl ?_
  refine W.lenS rfl Try.underlying22 rfl ?_
  refine W.wants rfl rfl rfl rfl ?_
  refine W.eqlI rfl rfl rfl ?_
  refine W.eqv (bT (rfl)) ?_
  refine W.pickT rfl rfl rfl ?_
  refine W.move rfl rfl ?_
  refine W.wants rfl rfl rfl rfl ?_
  refine W.move rfl rfl ?_
  refine W.wants rfl rfl rfl rfl ?_
  refine W.indexS (i := 0) XI Try.underlying22 rfl hS4 rfl ⟨by decide, by decide⟩ rfl ?_
  intro ad17 _ _ hc17
  refine W.wants rfl rfl rfl rfl ?_
  refine W.load (v := .int .i64 0) rfl Try.underlying3 rfl (by have h := hc17 0 (.int .i64 0) rfl; rwa [add_zero'] at h) rfl ?_
  refine W.wants rfl rfl rfl rfl ?_
  refine W.eqlI rfl rfl rfl ?_
  refine W.eqv (bT (rfl)) ?_
  refine W.pickT rfl rfl rfl ?_
  refine W.move rfl rfl ?_
  refine W.wants rfl rfl rfl rfl ?_
  refine W.move rfl rfl ?_
  refine W.wants rfl rfl rfl rfl ?_
  refine W.indexS (i := 1) XI Try.underlying22 rfl hS4 rfl ⟨by decide, by decide⟩ rfl ?_
  intro ad23 _ _ hc23
  refine W.wants rfl rfl rfl rfl ?_
  refine W.load (v := .int .i64 1) rfl Try.underlying3 rfl (by have h := hc23 0 (.int .i64 1) rfl; rwa [add_zero'] at h) rfl ?_
  refine W.wants rfl rfl rfl rfl ?_
  refine W.eqlI rfl rfl rfl ?_
  refine W.eqv (bT (rfl)) ?_
  refine W.pickT rfl rfl rfl ?_
  refine W.move rfl rfl ?_
  refine W.wants rfl rfl rfl rfl ?_
  refine W.call Try.call28 rfl (Sets.Root_ok _ _ (by omega)) rfl ?_
  rintro v28 w28 ⟨r28, rfl, hr28, hrl28, rfl⟩
  obtain rfl := root_uniq hr28 root10
  refine W.wants rfl rfl rfl rfl ?_
  refine W.eqlI rfl rfl rfl ?_
  refine W.eqv (bT (rfl)) ?_
  refine W.pickT rfl rfl rfl ?_
  refine W.assign rfl rfl ?_
  refine W.nil ?_
  refine At.thenCode ?_
  refine C.ret ?_
  refine At.ret1 Try.results27 rfl ?_
  exact ⟨rfl, hX4⟩
theorem SetsRoots_walk (n : Int) (w : World) (hn : -9223372036854775808 ≤ n ∧ n ≤ 9223372036854775807) :
    Ct Try.prog 6 #[.int .i64 n] w (LawOk w) := by
  refine Ct.enter [(0, .int .i64 n)] Try.func6 rfl rfl rfl rfl ?_
  refine C.seq ?_
  refine C.region ?_
  refine W.assign rfl rfl ?_
  refine W.nil ?_
  refine At.thenCode ?_
  refine C.seq ?_
  refine C.region ?_
  refine W.call Try.call27 rfl (alive_ok _) rfl ?_
  rintro v5 w5 ⟨rfl, hX5⟩
  refine W.assign rfl rfl ?_
  refine W.nil ?_
  refine At.thenCode ?_
  refine C.seq ?_
  refine C.seq ?_
  refine C.region ?_
  refine W.move rfl rfl ?_
  first | refine W.notD rfl rfl ?_ | refine W.notB rfl rfl ?_
  refine W.nil ?_
  refine At.thenCode ?_
  refine C.condF rfl ?_
  refine C.skip ?_
  refine At.thenCode ?_
  refine C.seq ?_
  refine C.region ?_
  refine W.move rfl rfl ?_
  refine W.call Try.call28 rfl (Sets.Root_ok _ _ (by omega)) rfl ?_
  rintro v10 w10 ⟨r10, rfl, hr10, hrl10, rfl⟩
  refine W.assign rfl rfl ?_
  refine W.nil ?_
  refine At.thenCode ?_
  refine C.seq ?_
  refine C.seq ?_
  refine C.region ?_
  refine W.move rfl rfl ?_
  refine W.move rfl rfl ?_
  refine W.call Try.call29 rfl (Sets.RRoot_ok _ _ (by omega)) rfl ?_
  rintro v13 w13 ⟨r13, rfl, hr13, rfl⟩
  obtain rfl := root_uniq hr13 hr10
  refine W.neqI rfl rfl rfl ?_
  refine W.eqv (bF (fun h => h rfl)) ?_
  refine W.nil ?_
  refine At.thenCode ?_
  refine C.condF rfl ?_
  refine C.skip ?_
  refine At.thenCode ?_
  refine C.seq ?_
  refine C.seq ?_
  refine C.region ?_
  refine W.move rfl rfl ?_
  refine W.lssI rfl rfl rfl ?_
  refine W.nil ?_
  refine At.thenCode ?_
  first | refine C.condD rfl (fun c16 => ?_) (fun c16 => ?_) | refine C.cond rfl (fun c16 => ?_) (fun c16 => ?_)
  · have hr0 := hr10.1 c16
    refine C.seq ?_
    refine C.region ?_
    refine W.move rfl rfl ?_
    refine W.eqlI rfl rfl rfl ?_
    refine W.eqv (bT (by omega)) ?_
    refine W.assign rfl rfl ?_
    refine W.nil ?_
    refine At.thenCode ?_
    refine C.ret ?_
    refine At.thenRet ?_
    refine At.ret1 Try.results6 rfl ?_
    exact ⟨rfl, Ext.below hX5⟩
  · obtain ⟨hq1, hq2⟩ := hr10.2 (by omega)
    have hq0 := sq_nonneg r13
    refine C.skip ?_
    refine At.thenCode ?_
    refine C.seq ?_
    refine C.region ?_
    refine W.move rfl rfl ?_
    refine W.geqI rfl rfl rfl ?_
    refine W.eqv (bT (by omega)) ?_
    refine W.move rfl rfl ?_
    refine W.wants rfl rfl rfl rfl ?_
    refine W.move rfl rfl ?_
    refine W.wants rfl rfl rfl rfl ?_
    refine W.move rfl rfl ?_
    refine W.wants rfl rfl rfl rfl ?_
    refine W.mulI rfl rfl (by omega) rfl ?_
    refine W.wants rfl rfl rfl rfl ?_
    refine W.move rfl rfl ?_
    refine W.wants rfl rfl rfl rfl ?_
    refine W.leqI rfl rfl rfl ?_
    refine W.eqv (bT (hq1)) ?_
    refine W.pickT rfl rfl rfl ?_
    refine W.move rfl rfl ?_
    refine W.wants rfl rfl rfl rfl ?_
    refine W.move rfl rfl ?_
    refine W.wants rfl rfl rfl rfl ?_
    refine W.geqI rfl rfl rfl ?_
    refine W.wants rfl rfl rfl rfl ?_
    refine W.move rfl rfl ?_
    first | refine W.splitD (fun g31 => ?_) (fun g31 => ?_) | refine W.splitB (fun g31 => ?_) (fun g31 => ?_)
    · refine W.skips rfl rfl rfl rfl rfl rfl ?_
      refine W.skips rfl rfl rfl rfl rfl rfl ?_
      refine W.skips rfl rfl rfl rfl rfl rfl ?_
      refine W.skips rfl rfl rfl rfl rfl rfl ?_
      refine W.skips rfl rfl rfl rfl rfl rfl ?_
      refine W.skips rfl rfl rfl rfl rfl rfl ?_
      refine W.skips rfl rfl rfl rfl rfl rfl ?_
      refine W.wants rfl rfl rfl rfl ?_
      refine W.pickT rfl rfl rfl ?_
      refine W.pickT rfl rfl rfl ?_
      refine W.assign rfl rfl ?_
      refine W.nil ?_
      refine At.thenCode ?_
      refine C.ret ?_
      refine At.ret1 Try.results6 rfl ?_
      exact ⟨rfl, Ext.below hX5⟩
    · have hsq := sq_le (t := r13 + 1) (by omega)
      have hsq0 := sq_nonneg (r13 + 1)
      have hse : ((r13 + 1 : Nat) : Int) = (r13 : Int) + 1 := by omega
      rw [hse] at hsq hsq0
      refine W.wants rfl rfl rfl rfl ?_
      refine W.move rfl rfl ?_
      refine W.wants rfl rfl rfl rfl ?_
      first | refine W.addI rfl rfl (by omega) rfl ?_ | refine W.addW rfl rfl rfl ?_
      refine W.wants rfl rfl rfl rfl ?_
      refine W.move rfl rfl ?_
      refine W.wants rfl rfl rfl rfl ?_
      first | refine W.addI rfl rfl (by omega) rfl ?_ | refine W.addW rfl rfl rfl ?_
      refine W.wants rfl rfl rfl rfl ?_
      refine W.mulI rfl rfl (by omega) rfl ?_
      refine W.wants rfl rfl rfl rfl ?_
      refine W.move rfl rfl ?_
      refine W.wants rfl rfl rfl rfl ?_
      refine W.gtrI rfl rfl rfl ?_
      refine W.eqv (bT (hq2)) ?_
      refine W.wants rfl rfl rfl rfl ?_
      refine W.pickF rfl rfl rfl ?_
      refine W.pickT rfl rfl rfl ?_
      refine W.assign rfl rfl ?_
      refine W.nil ?_
      refine At.thenCode ?_
      refine C.ret ?_
      refine At.ret1 Try.results6 rfl ?_
      exact ⟨rfl, Ext.below hX5⟩
theorem SetsPairs_walk (a b c d : Int) (w : World) (ha : -9223372036854775808 ≤ a ∧ a ≤ 9223372036854775807) (hb : -9223372036854775808 ≤ b ∧ b ≤ 9223372036854775807) (hc : -9223372036854775808 ≤ c ∧ c ≤ 9223372036854775807) (hd : -9223372036854775808 ≤ d ∧ d ≤ 9223372036854775807) :
    Ct Try.prog 7 #[.int .i64 a, .int .i64 b, .int .i64 c, .int .i64 d] w (LawOk w) := by
  refine Ct.enter [(0, .int .i64 a), (1, .int .i64 b), (2, .int .i64 c), (3, .int .i64 d)] Try.func7 rfl rfl rfl rfl ?_
  refine C.seq ?_
  refine C.region ?_
  refine W.assign rfl rfl ?_
  refine W.nil ?_
  refine At.thenCode ?_
  refine C.seq ?_
  refine C.region ?_
  refine W.call Try.call27 rfl (alive_ok _) rfl ?_
  rintro v18 w18 ⟨rfl, hX18⟩
  refine W.assign rfl rfl ?_
  refine W.nil ?_
  refine At.thenCode ?_
  refine C.seq ?_
  refine C.seq ?_
  refine C.region ?_
  refine W.move rfl rfl ?_
  first | refine W.notD rfl rfl ?_ | refine W.notB rfl rfl ?_
  refine W.nil ?_
  refine At.thenCode ?_
  refine C.condF rfl ?_
  refine C.skip ?_
  refine At.thenCode ?_
  refine C.seq ?_
  refine C.region ?_
  refine W.move rfl rfl ?_
  refine W.move rfl rfl ?_
  refine W.call Try.call30 rfl (Sets.Pair_ok _ _ _ (by omega) (by omega)) rfl ?_
  rintro v25 w25 ⟨rfl, rfl⟩
  refine W.move rfl rfl ?_
  refine W.extract rfl rfl rfl ?_
  refine W.extract rfl rfl rfl ?_
  refine W.assign rfl rfl ?_
  refine W.assign rfl rfl ?_
  refine W.nil ?_
  refine At.thenCode ?_
  refine C.seq ?_
  refine C.region ?_
  refine W.move rfl rfl ?_
  refine W.move rfl rfl ?_
  refine W.call Try.call31 rfl (Sets.RPair_ok _ _ _ (by omega) (by omega)) rfl ?_
  rintro v31 w31 ⟨rfl, rfl⟩
  refine W.move rfl rfl ?_
  refine W.extract rfl rfl rfl ?_
  refine W.extract rfl rfl rfl ?_
  refine W.assign rfl rfl ?_
  refine W.assign rfl rfl ?_
  refine W.nil ?_
  refine At.thenCode ?_
  refine C.seq ?_
  refine C.region ?_
  refine W.move rfl rfl ?_
  refine W.move rfl rfl ?_
  refine W.call Try.call30 rfl (Sets.Pair_ok _ _ _ (by omega) (by omega)) rfl ?_
  rintro v37 w37 ⟨rfl, rfl⟩
  rw [(pair_comm b a).1, (pair_comm b a).2]
  refine W.move rfl rfl ?_
  refine W.extract rfl rfl rfl ?_
  refine W.extract rfl rfl rfl ?_
  refine W.assign rfl rfl ?_
  refine W.assign rfl rfl ?_
  refine W.nil ?_
  refine At.thenCode ?_
  refine C.seq ?_
  refine C.seq ?_
  refine C.region ?_
  refine W.move rfl rfl ?_
  refine W.move rfl rfl ?_
  refine W.neqI rfl rfl rfl ?_
  refine W.eqv (bF (fun h => h rfl)) ?_
  refine W.move rfl rfl ?_
  refine W.wants rfl rfl rfl rfl ?_
  refine W.move rfl rfl ?_
  refine W.wants rfl rfl rfl rfl ?_
  refine W.call Try.call32 rfl (num_ok _ _) rfl ?_
  rintro v45 w45 ⟨rfl, rfl⟩
  refine W.wants rfl rfl rfl rfl ?_
  refine W.move rfl rfl ?_
  refine W.wants rfl rfl rfl rfl ?_
  refine W.neqI rfl rfl rfl ?_
  refine W.eqv (bF (fun h => h rfl)) ?_
  refine W.pickF rfl rfl rfl ?_
  refine W.move rfl rfl ?_
  refine W.wants rfl rfl rfl rfl ?_
  refine W.move rfl rfl ?_
  refine W.wants rfl rfl rfl rfl ?_
  refine W.move rfl rfl ?_
  refine W.wants rfl rfl rfl rfl ?_
  refine W.neqI rfl rfl rfl ?_
  refine W.eqv (bF (fun h => h rfl)) ?_
  refine W.pickF rfl rfl rfl ?_
  refine W.move rfl rfl ?_
  refine W.wants rfl rfl rfl rfl ?_
  refine W.move rfl rfl ?_
  refine W.wants rfl rfl rfl rfl ?_
  refine W.call Try.call32 rfl (num_ok _ _) rfl ?_
  rintro v56 w56 ⟨rfl, rfl⟩
  refine W.wants rfl rfl rfl rfl ?_
  refine W.move rfl rfl ?_
  refine W.wants rfl rfl rfl rfl ?_
  refine W.neqI rfl rfl rfl ?_
  refine W.eqv (bF (fun h => h rfl)) ?_
  refine W.pickF rfl rfl rfl ?_
  refine W.nil ?_
  refine At.thenCode ?_
  refine C.condF rfl ?_
  refine C.skip ?_
  refine At.thenCode ?_
  refine C.seq ?_
  refine C.region ?_
  refine W.move rfl rfl ?_
  refine W.move rfl rfl ?_
  refine W.call Try.call30 rfl (Sets.Pair_ok _ _ _ (by omega) (by omega)) rfl ?_
  rintro v63 w63 ⟨rfl, rfl⟩
  refine W.move rfl rfl ?_
  refine W.extract rfl rfl rfl ?_
  refine W.extract rfl rfl rfl ?_
  refine W.assign rfl rfl ?_
  refine W.assign rfl rfl ?_
  refine W.nil ?_
  refine At.thenCode ?_
  refine C.seq ?_
  refine C.seq ?_
  refine C.region ?_
  refine W.move rfl rfl ?_
  refine W.call Try.call32 rfl (num_ok _ _) rfl ?_
  rintro v67 w67 ⟨rfl, rfl⟩
  refine W.neqI rfl rfl rfl ?_
  refine W.move rfl rfl ?_
  first | refine W.splitD (fun g69 => ?_) (fun g69 => ?_) | refine W.splitB (fun g69 => ?_) (fun g69 => ?_)
  · refine W.skips rfl rfl rfl rfl rfl rfl ?_
    refine W.skips rfl rfl rfl rfl rfl rfl ?_
    refine W.skips rfl rfl rfl rfl rfl rfl ?_
    refine W.pickT rfl rfl rfl ?_
    refine W.nil ?_
    refine At.thenCode ?_
    refine C.condT rfl ?_
    refine C.seq ?_
    refine C.region ?_
    refine W.assign rfl rfl ?_
    refine W.nil ?_
    refine At.thenCode ?_
    refine C.ret ?_
    refine At.thenRet ?_
    refine At.ret1 Try.results7 rfl ?_
    exact ⟨rfl, Ext.below hX18⟩
  · refine W.wants rfl rfl rfl rfl ?_
    refine W.move rfl rfl ?_
    refine W.wants rfl rfl rfl rfl ?_
    refine W.call Try.call32 rfl (num_ok _ _) rfl ?_
    rintro v71 w71 ⟨rfl, rfl⟩
    refine W.wants rfl rfl rfl rfl ?_
    refine W.neqI rfl rfl rfl ?_
    refine W.pickF rfl rfl rfl ?_
    refine W.nil ?_
    refine At.thenCode ?_
    first | refine C.condD rfl (fun c73 => ?_) (fun c73 => ?_) | refine C.cond rfl (fun c73 => ?_) (fun c73 => ?_)
    · refine C.seq ?_
      refine C.region ?_
      refine W.assign rfl rfl ?_
      refine W.nil ?_
      refine At.thenCode ?_
      refine C.ret ?_
      refine At.thenRet ?_
      refine At.ret1 Try.results7 rfl ?_
      exact ⟨rfl, Ext.below hX18⟩
    · have hab : ¬ pairBad a b := fun h => by
        have h1 : pairE a b = 1 := by unfold pairE; rw [if_pos h]
        first | omega | (rw [h1] at g68; exact g68 (by decide)) | (rw [h1] at g69; exact g69 (by decide))
      have hcd : ¬ pairBad c d := fun h => by
        have h1 : pairE c d = 1 := by unfold pairE; rw [if_pos h]
        first | omega | (rw [h1] at c73; exact c73 (by decide))
      have hinj := pair_inj hab hcd
      refine C.skip ?_
      refine At.thenCode ?_
      refine C.seq ?_
      refine C.region ?_
      refine W.move rfl rfl ?_
      refine W.move rfl rfl ?_
      refine W.eqlI rfl rfl rfl ?_
      refine W.eqv (v' := .bool (decide ((a = c ∧ b = d) ∨ (a = d ∧ b = c)))) (decE (by rw [← hinj]; omega)) ?_
      refine W.move rfl rfl ?_
      refine W.move rfl rfl ?_
      refine W.eqlI rfl rfl rfl ?_
      refine W.move rfl rfl ?_
      first | refine W.splitD (fun g80 => ?_) (fun g80 => ?_) | refine W.splitB (fun g80 => ?_) (fun g80 => ?_)
      · refine W.wants rfl rfl rfl rfl ?_
        refine W.move rfl rfl ?_
        refine W.wants rfl rfl rfl rfl ?_
        refine W.move rfl rfl ?_
        refine W.wants rfl rfl rfl rfl ?_
        refine W.eqlI rfl rfl rfl ?_
        refine W.pickT rfl rfl rfl ?_
        refine W.move rfl rfl ?_
        first | refine W.splitD (fun g85 => ?_) (fun g85 => ?_) | refine W.splitB (fun g85 => ?_) (fun g85 => ?_)
        · refine W.skips rfl rfl rfl rfl rfl rfl ?_
          refine W.skips rfl rfl rfl rfl rfl rfl ?_
          refine W.skips rfl rfl rfl rfl rfl rfl ?_
          refine W.skips rfl rfl rfl rfl rfl rfl ?_
          refine W.skipsU rfl rfl rfl rfl rfl rfl ?_
          refine W.skipsU rfl rfl rfl rfl rfl rfl ?_
          refine W.skipsU rfl rfl rfl rfl rfl rfl ?_
          refine W.skips rfl rfl rfl rfl rfl rfl ?_
          refine W.pickT rfl rfl rfl ?_
          refine W.eqv (v' := .bool (decide ((a = c ∧ b = d) ∨ (a = d ∧ b = c)))) (by first | exact decE (by omega) | exact decT (by omega) | exact decF (by omega)) ?_
          refine W.eqlB rfl rfl Try.underlying4 rfl ?_
          refine W.eqv (v' := .bool true) (by simp) ?_
          refine W.assign rfl rfl ?_
          refine W.nil ?_
          refine At.thenCode ?_
          refine C.ret ?_
          refine At.ret1 Try.results7 rfl ?_
          exact ⟨rfl, Ext.below hX18⟩
        · refine W.wants rfl rfl rfl rfl ?_
          refine W.move rfl rfl ?_
          refine W.wants rfl rfl rfl rfl ?_
          refine W.move rfl rfl ?_
          refine W.wants rfl rfl rfl rfl ?_
          refine W.eqlI rfl rfl rfl ?_
          refine W.wants rfl rfl rfl rfl ?_
          refine W.move rfl rfl ?_
          first | refine W.splitD (fun g89 => ?_) (fun g89 => ?_) | refine W.splitB (fun g89 => ?_) (fun g89 => ?_)
          · refine W.wants rfl rfl rfl rfl ?_
            refine W.move rfl rfl ?_
            refine W.wants rfl rfl rfl rfl ?_
            refine W.move rfl rfl ?_
            refine W.wants rfl rfl rfl rfl ?_
            refine W.eqlI rfl rfl rfl ?_
            refine W.wants rfl rfl rfl rfl ?_
            refine W.pickT rfl rfl rfl ?_
            refine W.pickF rfl rfl rfl ?_
            refine W.eqv (v' := .bool (decide ((a = c ∧ b = d) ∨ (a = d ∧ b = c)))) (by first | exact decE (by omega) | exact decT (by omega) | exact decF (by omega)) ?_
            refine W.eqlB rfl rfl Try.underlying4 rfl ?_
            refine W.eqv (v' := .bool true) (by simp) ?_
            refine W.assign rfl rfl ?_
            refine W.nil ?_
            refine At.thenCode ?_
            refine C.ret ?_
            refine At.ret1 Try.results7 rfl ?_
            exact ⟨rfl, Ext.below hX18⟩
          · refine W.skips rfl rfl rfl rfl rfl rfl ?_
            refine W.skips rfl rfl rfl rfl rfl rfl ?_
            refine W.skips rfl rfl rfl rfl rfl rfl ?_
            refine W.wants rfl rfl rfl rfl ?_
            refine W.pickF rfl rfl rfl ?_
            refine W.pickF rfl rfl rfl ?_
            refine W.eqv (v' := .bool (decide ((a = c ∧ b = d) ∨ (a = d ∧ b = c)))) (by first | exact decE (by omega) | exact decT (by omega) | exact decF (by omega)) ?_
            refine W.eqlB rfl rfl Try.underlying4 rfl ?_
            refine W.eqv (v' := .bool true) (by simp) ?_
            refine W.assign rfl rfl ?_
            refine W.nil ?_
            refine At.thenCode ?_
            refine C.ret ?_
            refine At.ret1 Try.results7 rfl ?_
            exact ⟨rfl, Ext.below hX18⟩
      · refine W.skips rfl rfl rfl rfl rfl rfl ?_
        refine W.skips rfl rfl rfl rfl rfl rfl ?_
        refine W.skips rfl rfl rfl rfl rfl rfl ?_
        refine W.pickF rfl rfl rfl ?_
        refine W.move rfl rfl ?_
        refine W.wants rfl rfl rfl rfl ?_
        refine W.move rfl rfl ?_
        refine W.wants rfl rfl rfl rfl ?_
        refine W.move rfl rfl ?_
        refine W.wants rfl rfl rfl rfl ?_
        refine W.eqlI rfl rfl rfl ?_
        refine W.wants rfl rfl rfl rfl ?_
        refine W.move rfl rfl ?_
        first | refine W.splitD (fun g89 => ?_) (fun g89 => ?_) | refine W.splitB (fun g89 => ?_) (fun g89 => ?_)
        · refine W.wants rfl rfl rfl rfl ?_
          refine W.move rfl rfl ?_
          refine W.wants rfl rfl rfl rfl ?_
          refine W.move rfl rfl ?_
          refine W.wants rfl rfl rfl rfl ?_
          refine W.eqlI rfl rfl rfl ?_
          refine W.wants rfl rfl rfl rfl ?_
          refine W.pickT rfl rfl rfl ?_
          refine W.pickF rfl rfl rfl ?_
          refine W.eqv (v' := .bool (decide ((a = c ∧ b = d) ∨ (a = d ∧ b = c)))) (by first | exact decE (by omega) | exact decT (by omega) | exact decF (by omega)) ?_
          refine W.eqlB rfl rfl Try.underlying4 rfl ?_
          refine W.eqv (v' := .bool true) (by simp) ?_
          refine W.assign rfl rfl ?_
          refine W.nil ?_
          refine At.thenCode ?_
          refine C.ret ?_
          refine At.ret1 Try.results7 rfl ?_
          exact ⟨rfl, Ext.below hX18⟩
        · refine W.skips rfl rfl rfl rfl rfl rfl ?_
          refine W.skips rfl rfl rfl rfl rfl rfl ?_
          refine W.skips rfl rfl rfl rfl rfl rfl ?_
          refine W.wants rfl rfl rfl rfl ?_
          refine W.pickF rfl rfl rfl ?_
          refine W.pickF rfl rfl rfl ?_
          refine W.eqv (v' := .bool (decide ((a = c ∧ b = d) ∨ (a = d ∧ b = c)))) (by first | exact decE (by omega) | exact decT (by omega) | exact decF (by omega)) ?_
          refine W.eqlB rfl rfl Try.underlying4 rfl ?_
          refine W.eqv (v' := .bool true) (by simp) ?_
          refine W.assign rfl rfl ?_
          refine W.nil ?_
          refine At.thenCode ?_
          refine C.ret ?_
          refine At.ret1 Try.results7 rfl ?_
          exact ⟨rfl, Ext.below hX18⟩
theorem sides_pos {n : Int} (h : okN n) : 1 ≤ sidesN n := (sides_spec h).1
theorem SetsShare_walk (n a b : Int) (w : World) (hn : -9223372036854775808 ≤ n ∧ n ≤ 9223372036854775807) (ha : -9223372036854775808 ≤ a ∧ a ≤ 9223372036854775807) (hb : -9223372036854775808 ≤ b ∧ b ≤ 9223372036854775807) :
    Ct Try.prog 10 #[.int .i64 n, .int .i64 a, .int .i64 b] w (LawOk w) := by
  refine Ct.enter [(0, .int .i64 n), (1, .int .i64 a), (2, .int .i64 b)] Try.func10 rfl rfl rfl rfl ?_
  refine C.seq ?_
  refine C.region ?_
  refine W.assign rfl rfl ?_
  refine W.nil ?_
  refine At.thenCode ?_
  refine C.seq ?_
  refine C.region ?_
  refine W.call Try.call27 rfl (alive_ok _) rfl ?_
  rintro v19 w19 ⟨rfl, hX19⟩
  refine W.assign rfl rfl ?_
  refine W.nil ?_
  refine At.thenCode ?_
  refine C.seq ?_
  refine C.seq ?_
  refine C.region ?_
  refine W.move rfl rfl ?_
  first | refine W.notD rfl rfl ?_ | refine W.notB rfl rfl ?_
  refine W.move rfl rfl ?_
  refine W.wants rfl rfl rfl rfl ?_
  refine W.move rfl rfl ?_
  refine W.wants rfl rfl rfl rfl ?_
  refine W.lssI rfl rfl rfl ?_
  refine W.pickF rfl rfl rfl ?_
  refine W.move rfl rfl ?_
  first | refine W.splitD (fun g26 => ?_) (fun g26 => ?_) | refine W.splitB (fun g26 => ?_) (fun g26 => ?_)
  · refine W.skips rfl rfl rfl rfl rfl rfl ?_
    refine W.skips rfl rfl rfl rfl rfl rfl ?_
    refine W.pickT rfl rfl rfl ?_
    refine W.nil ?_
    refine At.thenCode ?_
    refine C.condT rfl ?_
    refine C.seq ?_
    refine C.region ?_
    refine W.move rfl rfl ?_
    refine W.assign rfl rfl ?_
    refine W.nil ?_
    refine At.thenCode ?_
    refine C.ret ?_
    refine At.thenRet ?_
    refine At.ret1 Try.results10 rfl ?_
    first | exact ⟨rfl, Ext.below (((hX19.ext hX86).ext hX92).ext hX99)⟩ | exact ⟨rfl, Ext.below hX19⟩
  · refine W.wants rfl rfl rfl rfl ?_
    refine W.move rfl rfl ?_
    refine W.wants rfl rfl rfl rfl ?_
    refine W.gtrI rfl rfl rfl ?_
    refine W.pickF rfl rfl rfl ?_
    refine W.nil ?_
    refine At.thenCode ?_
    first | refine C.condD rfl (fun c29 => ?_) (fun c29 => ?_) | refine C.cond rfl (fun c29 => ?_) (fun c29 => ?_)
    · refine C.seq ?_
      refine C.region ?_
      refine W.move rfl rfl ?_
      refine W.assign rfl rfl ?_
      refine W.nil ?_
      refine At.thenCode ?_
      refine C.ret ?_
      refine At.thenRet ?_
      refine At.ret1 Try.results10 rfl ?_
      first | exact ⟨rfl, Ext.below (((hX19.ext hX86).ext hX92).ext hX99)⟩ | exact ⟨rfl, Ext.below hX19⟩
    · have hok : okN n := ⟨by omega, by omega⟩
      obtain ⟨hs1, hs2, hs3⟩ := sides_spec hok
      have hsl := sidesN_le n
      obtain ⟨S, hS⟩ : ∃ S, S = sidesN n := ⟨_, rfl⟩
      have hhb := tri_hb (l := S) (by omega)
      have htb := tri_bound (g := S) (by omega) (by omega)
      have hti := tri_int (g := S) (by omega)
      rw [← hS] at hs1 hs2 hs3 hsl
      refine C.skip ?_
      refine At.thenCode ?_
      refine C.seq ?_
      refine C.region ?_
      refine W.move rfl rfl ?_
      refine W.call Try.call33 rfl (Sets.Sides_ok _ _ (by omega)) rfl ?_
      rintro v32 w32 ⟨rfl, rfl⟩
      rw [← hS]
      refine W.assign rfl rfl ?_
      refine W.nil ?_
      refine At.thenCode ?_
      refine C.seq ?_
      refine C.seq ?_
      refine C.region ?_
      refine W.move rfl rfl ?_
      refine W.lssI rfl rfl rfl ?_
      refine W.eqv (bF (by omega)) ?_
      refine W.move rfl rfl ?_
      refine W.wants rfl rfl rfl rfl ?_
      refine W.move rfl rfl ?_
      refine W.wants rfl rfl rfl rfl ?_
      refine W.move rfl rfl ?_
      refine W.wants rfl rfl rfl rfl ?_
      first | refine W.addI rfl rfl (by omega) rfl ?_ | refine W.addW rfl rfl rfl ?_
      refine W.wants rfl rfl rfl rfl ?_
      refine W.mulI rfl rfl (by omega) rfl ?_
      refine W.wants rfl rfl rfl rfl ?_
      first | refine W.quoI rfl rfl (by omega) rfl ?_ | refine W.quoW rfl rfl (by omega) rfl ?_
      rw [tri_half]
      refine W.wants rfl rfl rfl rfl ?_
      refine W.move rfl rfl ?_
      refine W.wants rfl rfl rfl rfl ?_
      refine W.lssI rfl rfl rfl ?_
      refine W.eqv (bF (by omega)) ?_
      refine W.pickF rfl rfl rfl ?_
      refine W.move rfl rfl ?_
      refine W.wants rfl rfl rfl rfl ?_
      refine W.move rfl rfl ?_
      refine W.wants rfl rfl rfl rfl ?_
      refine W.gtrI rfl rfl rfl ?_
      refine W.wants rfl rfl rfl rfl ?_
      refine W.move rfl rfl ?_
      first | refine W.splitD (fun g47 => ?_) (fun g47 => ?_) | refine W.splitB (fun g47 => ?_) (fun g47 => ?_)
      · refine W.wants rfl rfl rfl rfl ?_
        refine W.move rfl rfl ?_
        refine W.wants rfl rfl rfl rfl ?_
        refine W.move rfl rfl ?_
        refine W.wants rfl rfl rfl rfl ?_
        first | refine W.subI rfl rfl (by omega) rfl ?_ | refine W.subW rfl rfl rfl ?_
        refine W.wants rfl rfl rfl rfl ?_
        refine W.mulI rfl rfl (by omega) rfl ?_
        refine W.wants rfl rfl rfl rfl ?_
        first | refine W.quoI rfl rfl (by omega) rfl ?_ | refine W.quoW rfl rfl (by omega) rfl ?_
        rw [hti]
        refine W.wants rfl rfl rfl rfl ?_
        refine W.move rfl rfl ?_
        refine W.wants rfl rfl rfl rfl ?_
        refine W.geqI rfl rfl rfl ?_
        refine W.eqv (bF (by omega)) ?_
        refine W.wants rfl rfl rfl rfl ?_
        refine W.pickT rfl rfl rfl ?_
        refine W.pickF rfl rfl rfl ?_
        refine W.move rfl rfl ?_
        refine W.wants rfl rfl rfl rfl ?_
        refine W.move rfl rfl ?_
        refine W.wants rfl rfl rfl rfl ?_
        refine W.lssI rfl rfl rfl ?_
        refine W.pickF rfl rfl rfl ?_
        refine W.move rfl rfl ?_
        first | refine W.splitD (fun g61 => ?_) (fun g61 => ?_) | refine W.splitB (fun g61 => ?_) (fun g61 => ?_)
        · refine W.skips rfl rfl rfl rfl rfl rfl ?_
          refine W.skips rfl rfl rfl rfl rfl rfl ?_
          refine W.pickT rfl rfl rfl ?_
          refine W.nil ?_
          refine At.thenCode ?_
          refine C.condT rfl ?_
          refine C.seq ?_
          refine C.region ?_
          refine W.move rfl rfl ?_
          refine W.geqI rfl rfl rfl ?_
          refine W.eqv (bT (by omega)) ?_
          refine W.move rfl rfl ?_
          refine W.wants rfl rfl rfl rfl ?_
          refine W.move rfl rfl ?_
          refine W.wants rfl rfl rfl rfl ?_
          refine W.lssI rfl rfl rfl ?_
          refine W.wants rfl rfl rfl rfl ?_
          refine W.move rfl rfl ?_
          first | refine W.splitD (fun g70 => ?_) (fun g70 => ?_) | refine W.splitB (fun g70 => ?_) (fun g70 => ?_)
          · refine W.skips rfl rfl rfl rfl rfl rfl ?_
            refine W.skips rfl rfl rfl rfl rfl rfl ?_
            refine W.wants rfl rfl rfl rfl ?_
            refine W.pickT rfl rfl rfl ?_
            refine W.eqv (v' := .bool true) (by first | rfl | (exact bT (by omega))) ?_
            refine W.pickT rfl rfl rfl ?_
            refine W.assign rfl rfl ?_
            refine W.nil ?_
            refine At.thenCode ?_
            refine C.ret ?_
            refine At.thenRet ?_
            refine At.ret1 Try.results10 rfl ?_
            first | exact ⟨rfl, Ext.below (((hX19.ext hX86).ext hX92).ext hX99)⟩ | exact ⟨rfl, Ext.below hX19⟩
          · refine W.wants rfl rfl rfl rfl ?_
            refine W.move rfl rfl ?_
            refine W.wants rfl rfl rfl rfl ?_
            refine W.lssI rfl rfl rfl ?_
            refine W.wants rfl rfl rfl rfl ?_
            refine W.pickF rfl rfl rfl ?_
            refine W.eqv (v' := .bool true) (by first | rfl | (exact bT (by omega))) ?_
            refine W.pickT rfl rfl rfl ?_
            refine W.assign rfl rfl ?_
            refine W.nil ?_
            refine At.thenCode ?_
            refine C.ret ?_
            refine At.thenRet ?_
            refine At.ret1 Try.results10 rfl ?_
            first | exact ⟨rfl, Ext.below (((hX19.ext hX86).ext hX92).ext hX99)⟩ | exact ⟨rfl, Ext.below hX19⟩
        · refine W.wants rfl rfl rfl rfl ?_
          refine W.move rfl rfl ?_
          refine W.wants rfl rfl rfl rfl ?_
          refine W.lssI rfl rfl rfl ?_
          refine W.pickF rfl rfl rfl ?_
          refine W.nil ?_
          refine At.thenCode ?_
          first | refine C.condD rfl (fun c64 => ?_) (fun c64 => ?_) | refine C.cond rfl (fun c64 => ?_) (fun c64 => ?_)
          · have hneg : a < 0 ∨ b < 0 := by omega
            refine C.seq ?_
            refine C.region ?_
            refine W.move rfl rfl ?_
            refine W.geqI rfl rfl rfl ?_
            refine W.eqv (bT (by omega)) ?_
            refine W.move rfl rfl ?_
            refine W.wants rfl rfl rfl rfl ?_
            refine W.move rfl rfl ?_
            refine W.wants rfl rfl rfl rfl ?_
            refine W.lssI rfl rfl rfl ?_
            refine W.wants rfl rfl rfl rfl ?_
            refine W.move rfl rfl ?_
            first | refine W.splitD (fun g70 => ?_) (fun g70 => ?_) | refine W.splitB (fun g70 => ?_) (fun g70 => ?_)
            · refine W.skips rfl rfl rfl rfl rfl rfl ?_
              refine W.skips rfl rfl rfl rfl rfl rfl ?_
              refine W.wants rfl rfl rfl rfl ?_
              refine W.pickT rfl rfl rfl ?_
              refine W.eqv (v' := .bool true) (by first | rfl | (exact bT (by omega))) ?_
              refine W.pickT rfl rfl rfl ?_
              refine W.assign rfl rfl ?_
              refine W.nil ?_
              refine At.thenCode ?_
              refine C.ret ?_
              refine At.thenRet ?_
              refine At.ret1 Try.results10 rfl ?_
              first | exact ⟨rfl, Ext.below (((hX19.ext hX86).ext hX92).ext hX99)⟩ | exact ⟨rfl, Ext.below hX19⟩
            · refine W.wants rfl rfl rfl rfl ?_
              refine W.move rfl rfl ?_
              refine W.wants rfl rfl rfl rfl ?_
              refine W.lssI rfl rfl rfl ?_
              refine W.wants rfl rfl rfl rfl ?_
              refine W.pickF rfl rfl rfl ?_
              refine W.eqv (v' := .bool true) (by first | rfl | (exact bT (by omega))) ?_
              refine W.pickT rfl rfl rfl ?_
              refine W.assign rfl rfl ?_
              refine W.nil ?_
              refine At.thenCode ?_
              refine C.ret ?_
              refine At.thenRet ?_
              refine At.ret1 Try.results10 rfl ?_
              first | exact ⟨rfl, Ext.below (((hX19.ext hX86).ext hX92).ext hX99)⟩ | exact ⟨rfl, Ext.below hX19⟩
          · obtain ⟨A, hA⟩ : ∃ A, A = a % ((S : Int) + 1) := ⟨_, rfl⟩
            obtain ⟨B, hB⟩ : ∃ B, B = b % ((S : Int) + 1) := ⟨_, rfl⟩
            have hA0 : 0 ≤ A ∧ A < (S : Int) + 1 := by rw [hA]; exact ⟨Int.emod_nonneg _ (by omega), Int.emod_lt_of_pos _ (by omega)⟩
            have hB0 : 0 ≤ B ∧ B < (S : Int) + 1 := by rw [hB]; exact ⟨Int.emod_nonneg _ (by omega), Int.emod_lt_of_pos _ (by omega)⟩
            have hgA : groupOk A n := ⟨hok, by omega, by omega⟩
            have hgB : groupOk B n := ⟨hok, by omega, by omega⟩
            have hlA := setL_length hgA
            have hlB := setL_length hgB
            have hRA : setR A n = setL A n := by unfold setR; rw [if_pos hgA]
            have hRB : setR B n = setL B n := by unfold setR; rw [if_pos hgB]
            have hEA : setE A n = 0 := by unfold setE; rw [if_pos hgA]
            have hEB : setE B n = 0 := by unfold setE; rw [if_pos hgB]
            have hSE : sharedE A B n = 0 := by unfold sharedE; rw [if_pos ⟨hgA, hgB⟩]
            have hin : sharedN A B n ∈ setL A n ∧ sharedN A B n ∈ setL B n := by
              unfold sharedN
              rw [if_pos ⟨hgA, hgB⟩]
              by_cases e : A = B
              · rw [if_pos e, ← e]
                have : (setL A n).headD 0 ∈ setL A n := by
                  cases h : setL A n with
                  | nil => rw [h] at hlA; simp at hlA; omega
                  | cons x r => simp
                exact ⟨this, this⟩
              · rw [if_neg e]
                obtain ⟨x, rfl⟩ : ∃ x : Nat, A = x := ⟨A.toNat, by omega⟩
                obtain ⟨y, rfl⟩ : ∃ y : Nat, B = y := ⟨B.toNat, by omega⟩
                refine ⟨setL_mem (by omega) (by omega), ?_⟩
                rw [(pair_comm _ _).1]
                exact setL_mem (by omega) (by omega)
            have hcr := setP_range (g := A) (n := n) hok.1 _ _ hin.1
            obtain ⟨cc, hcc⟩ : ∃ cc, cc = sharedN A B n := ⟨_, rfl⟩
            rw [← hcc] at hin hcr
            rw [← hS] at hlA hlB
            refine C.skip ?_
            refine At.thenCode ?_
            refine C.seq ?_
            refine C.region ?_
            refine W.move rfl rfl ?_
            refine W.move rfl rfl ?_
            first | refine W.addI rfl rfl (by omega) rfl ?_ | refine W.addW rfl rfl rfl ?_
            first | refine W.remI rfl rfl (by omega) rfl ?_ | refine W.remW rfl rfl (by omega) rfl ?_
            rw [← hA]
            refine W.assign rfl rfl ?_
            refine W.nil ?_
            refine At.thenCode ?_
            refine C.seq ?_
            refine C.region ?_
            refine W.move rfl rfl ?_
            refine W.move rfl rfl ?_
            first | refine W.addI rfl rfl (by omega) rfl ?_ | refine W.addW rfl rfl rfl ?_
            first | refine W.remI rfl rfl (by omega) rfl ?_ | refine W.remW rfl rfl (by omega) rfl ?_
            rw [← hB]
            refine W.assign rfl rfl ?_
            refine W.nil ?_
            refine At.thenCode ?_
            refine C.seq ?_
            refine C.region ?_
            refine W.move rfl rfl ?_
            refine W.move rfl rfl ?_
            refine W.call Try.call34 rfl (Sets.Set_ok _ _ _ (by omega) (by omega)) rfl ?_
            rintro v86 w86 ⟨⟨ao86, c86, rfl, hS86, hfS86⟩, hX86⟩
            rw [hRA] at hS86 ⊢
            rw [hEA]
            refine W.move rfl rfl ?_
            refine W.extract rfl rfl rfl ?_
            refine W.extract rfl rfl rfl ?_
            refine W.assign rfl rfl ?_
            refine W.assign rfl rfl ?_
            refine W.nil ?_
            refine At.thenCode ?_
            refine C.seq ?_
            refine C.region ?_
            refine W.move rfl rfl ?_
            refine W.move rfl rfl ?_
            refine W.call Try.call34 rfl (Sets.Set_ok _ _ _ (by omega) (by omega)) rfl ?_
            rintro v92 w92 ⟨⟨ao92, c92, rfl, hS92, hfS92⟩, hX92⟩
            rw [hRB] at hS92 ⊢
            rw [hEB]
            refine W.move rfl rfl ?_
            refine W.extract rfl rfl rfl ?_
            refine W.extract rfl rfl rfl ?_
            refine W.assign rfl rfl ?_
            refine W.assign rfl rfl ?_
            refine W.nil ?_
            refine At.thenCode ?_
            refine C.seq ?_
            refine C.region ?_
            refine W.move rfl rfl ?_
            refine W.move rfl rfl ?_
            refine W.move rfl rfl ?_
            refine W.call Try.call35 rfl (Sets.Shared_ok _ _ _ _ (by omega) (by omega) (by omega)) rfl ?_
            rintro v99 w99 ⟨rfl, hX99⟩
            rw [← hcc, hSE]
            have hSA := (Sl.ext (Sl.ext hS86 hX92) hX99 : Zs w99 ao86 c86 (setL A n))
            have hSB := (Sl.ext hS92 hX99 : Zs w99 ao92 c92 (setL B n))
            refine W.move rfl rfl ?_
            refine W.extract rfl rfl rfl ?_
            refine W.extract rfl rfl rfl ?_
            refine W.assign rfl rfl ?_
            refine W.assign rfl rfl ?_
            refine W.nil ?_
            refine At.thenCode ?_
            refine C.seq ?_
            refine C.seq ?_
            refine C.region ?_
            refine W.move rfl rfl ?_
            refine W.call Try.call32 rfl (num_ok _ _) rfl ?_
            rintro v103 w103 ⟨rfl, rfl⟩
            refine W.neqI rfl rfl rfl ?_
            refine W.eqv (bF (by omega)) ?_
            refine W.move rfl rfl ?_
            refine W.wants rfl rfl rfl rfl ?_
            refine W.move rfl rfl ?_
            refine W.wants rfl rfl rfl rfl ?_
            refine W.call Try.call32 rfl (num_ok _ _) rfl ?_
            rintro v107 w107 ⟨rfl, rfl⟩
            refine W.wants rfl rfl rfl rfl ?_
            refine W.neqI rfl rfl rfl ?_
            refine W.eqv (bF (by omega)) ?_
            refine W.pickF rfl rfl rfl ?_
            refine W.move rfl rfl ?_
            refine W.wants rfl rfl rfl rfl ?_
            refine W.move rfl rfl ?_
            refine W.wants rfl rfl rfl rfl ?_
            refine W.call Try.call32 rfl (num_ok _ _) rfl ?_
            rintro v112 w112 ⟨rfl, rfl⟩
            refine W.wants rfl rfl rfl rfl ?_
            refine W.neqI rfl rfl rfl ?_
            refine W.eqv (bF (by omega)) ?_
            refine W.pickF rfl rfl rfl ?_
            refine W.move rfl rfl ?_
            refine W.wants rfl rfl rfl rfl ?_
            refine W.move rfl rfl ?_
            refine W.wants rfl rfl rfl rfl ?_
            refine W.lenS rfl Try.underlying22 rfl ?_
            refine W.wants rfl rfl rfl rfl ?_
            refine W.move rfl rfl ?_
            refine W.wants rfl rfl rfl rfl ?_
            refine W.neqI rfl rfl rfl ?_
            refine W.eqv (bF (by omega)) ?_
            refine W.pickF rfl rfl rfl ?_
            refine W.move rfl rfl ?_
            refine W.wants rfl rfl rfl rfl ?_
            refine W.move rfl rfl ?_
            refine W.wants rfl rfl rfl rfl ?_
            refine W.lenS rfl Try.underlying22 rfl ?_
            refine W.wants rfl rfl rfl rfl ?_
            refine W.move rfl rfl ?_
            refine W.wants rfl rfl rfl rfl ?_
            refine W.neqI rfl rfl rfl ?_
            refine W.eqv (bF (by omega)) ?_
            refine W.pickF rfl rfl rfl ?_
            refine W.move rfl rfl ?_
            refine W.wants rfl rfl rfl rfl ?_
            refine W.move rfl rfl ?_
            refine W.wants rfl rfl rfl rfl ?_
            refine W.lssI rfl rfl rfl ?_
            refine W.eqv (bF (by omega)) ?_
            refine W.pickF rfl rfl rfl ?_
            refine W.move rfl rfl ?_
            refine W.wants rfl rfl rfl rfl ?_
            refine W.move rfl rfl ?_
            refine W.wants rfl rfl rfl rfl ?_
            refine W.move rfl rfl ?_
            refine W.wants rfl rfl rfl rfl ?_
            refine W.geqI rfl rfl rfl ?_
            refine W.eqv (bF (by omega)) ?_
            refine W.pickF rfl rfl rfl ?_
            refine W.nil ?_
            refine At.thenCode ?_
            refine C.condF rfl ?_
            refine C.skip ?_
            refine At.thenCode ?_
            refine C.seq ?_
            refine C.region ?_
            refine W.assign rfl rfl ?_
            refine W.nil ?_
            refine At.thenCode ?_
            refine C.seq ?_
            refine C.seq ?_
            refine C.region ?_
            refine W.assign rfl rfl ?_
            refine W.nil ?_
            refine At.thenCode ?_
            refine C.block ?_
            refine C.loop (X := Nat) (fun x_ => [(8, .int .i64 (S : Int)), (9, .slice ao86 (setL A n).length c86), (11, .slice ao92 (setL B n).length c92), (13, .int .i64 cc), (15, .bool (decide (cc ∈ (setL A n).take x_))), (16, .int .i64 (x_ : Int))]) (fun x_ w1 => w99 = w1 ∧ x_ ≤ S) (fun x_ => S - x_) (0) (Sub.cons (rfl) (Sub.cons (rfl) (Sub.cons (rfl) (Sub.cons (rfl) (Sub.cons (rfl) (Sub.cons (rfl) (Sub.nil))))))) ?start1 ?_
            case start1 =>
              show w99 = _ ∧ (0) ≤ S
              exact ⟨rfl, by omega⟩
            rintro i w1 hI_
            replace hI_ : w99 = w1 ∧ i ≤ S := hI_
            obtain ⟨rfl, hi⟩ := hI_
            refine C.weaken (l' := [(8, .int .i64 (S : Int)), (9, .slice ao86 (setL A n).length c86), (11, .slice ao92 (setL B n).length c92), (13, .int .i64 cc), (15, .bool (decide (cc ∈ (setL A n).take i))), (16, .int .i64 (i : Int))]) (Sub.cons (rfl) (Sub.cons (rfl) (Sub.cons (rfl) (Sub.cons (rfl) (Sub.cons (rfl) (Sub.cons (rfl) (Sub.nil))))))) ?_
            refine C.seq ?_
            refine C.seq ?_
            refine C.region ?_
            refine W.move rfl rfl ?_
            refine W.move rfl rfl ?_
            refine W.lssI rfl rfl rfl ?_
            refine W.nil ?_
            refine At.thenCode ?_
            first | refine C.condD rfl (fun c138 => ?_) (fun c138 => ?_) | refine C.cond rfl (fun c138 => ?_) (fun c138 => ?_)
            · have hlt : i < (setL A n).length := by omega
              have htk : ∀ p : Prop, (cc ∈ (setL A n).take (i + 1)) ↔ (cc ∈ (setL A n).take i ∨ (setL A n)[i]'hlt = cc) := fun _ => by
                rw [List.take_succ_eq_append_getElem hlt, List.mem_append, List.mem_singleton]
                exact or_congr Iff.rfl eq_comm
              have htk := htk True
              refine C.skip ?_
              refine At.thenCode ?_
              refine C.seq ?_
              refine C.block ?_
              refine C.region ?_
              refine W.move rfl rfl ?_
              refine W.move rfl rfl ?_
              first | refine W.splitD (fun g142 => ?_) (fun g142 => ?_) | refine W.splitB (fun g142 => ?_) (fun g142 => ?_)
              · refine W.skips rfl rfl rfl rfl rfl rfl ?_
                refine W.skips rfl rfl rfl rfl rfl rfl ?_
                refine W.skips rfl rfl rfl rfl rfl rfl ?_
                refine W.skips rfl rfl rfl rfl rfl rfl ?_
                refine W.skips rfl rfl rfl rfl rfl rfl ?_
                refine W.skips rfl rfl rfl rfl rfl rfl ?_
                refine W.pickT rfl rfl rfl ?_
                refine W.assign rfl rfl ?_
                refine W.nil ?_
                refine At.blockNormal ?_
                refine At.thenCode ?_
                refine C.region ?_
                refine W.move rfl rfl ?_
                first | refine W.addI rfl rfl (by omega) rfl ?_ | refine W.addW rfl rfl rfl ?_
                refine W.assign rfl rfl ?_
                refine W.nil ?_
                refine At.thenRound (i + 1) (Sub.cons (rfl) (Sub.cons (rfl) (Sub.cons (rfl) (Sub.cons (rfl) (Sub.cons (look_eq rfl (by first | exact decT (by rw [htk]; exact Or.inl g142) | exact decE (by rw [htk]; exact ⟨Or.inr, fun h => h.resolve_left g142⟩))) (Sub.cons (look_eq rfl (iV (by omega))) (Sub.nil))))))) (show w99 = _ ∧ (i + 1) ≤ S from ?_) (show S - (i + 1) < S - i from ?_)
                · exact ⟨rfl, by omega⟩
                · omega
              · refine W.wants rfl rfl rfl rfl ?_
                refine W.move rfl rfl ?_
                refine W.wants rfl rfl rfl rfl ?_
                refine W.move rfl rfl ?_
                refine W.wants rfl rfl rfl rfl ?_
                refine W.indexS (i := (i : Int)) XI Try.underlying22 rfl hSA rfl ⟨by omega, by omega⟩ rfl ?_
                intro ad145 _ _ hc145
                refine W.wants rfl rfl rfl rfl ?_
                refine W.load (v := .int .i64 ((setL A n)[i]'hlt)) rfl Try.underlying3 rfl (by have h := hc145 0 (.int .i64 ((setL A n)[i]'hlt)) (by rw [List.getElem?_drop, Int.toNat_natCast, Nat.mul_one, Nat.add_zero]; exact get_z hlt); rwa [add_zero'] at h) rfl ?_
                refine W.wants rfl rfl rfl rfl ?_
                refine W.move rfl rfl ?_
                refine W.wants rfl rfl rfl rfl ?_
                refine W.eqlI rfl rfl rfl ?_
                refine W.pickF rfl rfl rfl ?_
                refine W.assign rfl rfl ?_
                refine W.nil ?_
                refine At.blockNormal ?_
                refine At.thenCode ?_
                refine C.region ?_
                refine W.move rfl rfl ?_
                first | refine W.addI rfl rfl (by omega) rfl ?_ | refine W.addW rfl rfl rfl ?_
                refine W.assign rfl rfl ?_
                refine W.nil ?_
                refine At.thenRound (i + 1) (Sub.cons (rfl) (Sub.cons (rfl) (Sub.cons (rfl) (Sub.cons (rfl) (Sub.cons (look_eq rfl (by first | exact decT (by rw [htk]; exact Or.inl g142) | exact decE (by rw [htk]; exact ⟨Or.inr, fun h => h.resolve_left g142⟩))) (Sub.cons (look_eq rfl (iV (by omega))) (Sub.nil))))))) (show w99 = _ ∧ (i + 1) ≤ S from ?_) (show S - (i + 1) < S - i from ?_)
                · exact ⟨rfl, by omega⟩
                · omega
            · obtain rfl : S = i := by omega
              refine C.exit ?_
              refine At.thenExit ?_
              refine At.thenExit ?_
              refine At.blockSelf ?_
              refine At.thenCode ?_
              refine C.seq ?_
              refine C.region ?_
              refine W.assign rfl rfl ?_
              refine W.nil ?_
              refine At.thenCode ?_
              refine C.seq ?_
              refine C.seq ?_
              refine C.region ?_
              refine W.assign rfl rfl ?_
              refine W.nil ?_
              refine At.thenCode ?_
              refine C.block ?_
              refine C.loop (X := Nat) (fun x_ => [(8, .int .i64 (S : Int)), (11, .slice ao92 (setL B n).length c92), (13, .int .i64 cc), (15, .bool true), (17, .bool (decide (cc ∈ (setL B n).take x_))), (18, .int .i64 (x_ : Int))]) (fun x_ w2 => w99 = w2 ∧ x_ ≤ S) (fun x_ => S - x_) (0) (Sub.cons (rfl) (Sub.cons (rfl) (Sub.cons (rfl) (Sub.cons (look_eq rfl (bT (by rw [List.take_of_length_le (by omega)]; exact hin.1))) (Sub.cons (rfl) (Sub.cons (rfl) (Sub.nil))))))) ?start2 ?_
              case start2 =>
                show w99 = _ ∧ (0) ≤ S
                exact ⟨rfl, by omega⟩
              rintro i w2 hI_
              replace hI_ : w99 = w2 ∧ i ≤ S := hI_
              obtain ⟨rfl, hi⟩ := hI_
              refine C.weaken (l' := [(8, .int .i64 (S : Int)), (11, .slice ao92 (setL B n).length c92), (13, .int .i64 cc), (15, .bool true), (17, .bool (decide (cc ∈ (setL B n).take i))), (18, .int .i64 (i : Int))]) (Sub.cons (rfl) (Sub.cons (rfl) (Sub.cons (rfl) (Sub.cons (rfl) (Sub.cons (rfl) (Sub.cons (rfl) (Sub.nil))))))) ?_
              refine C.seq ?_
              refine C.seq ?_
              refine C.region ?_
              refine W.move rfl rfl ?_
              refine W.move rfl rfl ?_
              refine W.lssI rfl rfl rfl ?_
              refine W.nil ?_
              refine At.thenCode ?_
              first | refine C.condD rfl (fun c152 => ?_) (fun c152 => ?_) | refine C.cond rfl (fun c152 => ?_) (fun c152 => ?_)
              · have hlt : i < (setL B n).length := by omega
                have htk : (cc ∈ (setL B n).take (i + 1)) ↔ (cc ∈ (setL B n).take i ∨ (setL B n)[i]'hlt = cc) := by
                  rw [List.take_succ_eq_append_getElem hlt, List.mem_append, List.mem_singleton]
                  exact or_congr Iff.rfl eq_comm
                refine C.skip ?_
                refine At.thenCode ?_
                refine C.seq ?_
                refine C.block ?_
                refine C.region ?_
                refine W.move rfl rfl ?_
                refine W.move rfl rfl ?_
                first | refine W.splitD (fun g156 => ?_) (fun g156 => ?_) | refine W.splitB (fun g156 => ?_) (fun g156 => ?_)
                · refine W.skips rfl rfl rfl rfl rfl rfl ?_
                  refine W.skips rfl rfl rfl rfl rfl rfl ?_
                  refine W.skips rfl rfl rfl rfl rfl rfl ?_
                  refine W.skips rfl rfl rfl rfl rfl rfl ?_
                  refine W.skips rfl rfl rfl rfl rfl rfl ?_
                  refine W.skips rfl rfl rfl rfl rfl rfl ?_
                  refine W.pickT rfl rfl rfl ?_
                  refine W.assign rfl rfl ?_
                  refine W.nil ?_
                  refine At.blockNormal ?_
                  refine At.thenCode ?_
                  refine C.region ?_
                  refine W.move rfl rfl ?_
                  first | refine W.addI rfl rfl (by omega) rfl ?_ | refine W.addW rfl rfl rfl ?_
                  refine W.assign rfl rfl ?_
                  refine W.nil ?_
                  refine At.thenRound (i + 1) (Sub.cons (rfl) (Sub.cons (rfl) (Sub.cons (rfl) (Sub.cons (rfl) (Sub.cons (look_eq rfl (by first | exact decT (by rw [htk]; exact Or.inl g156) | exact decE (by rw [htk]; exact ⟨Or.inr, fun h => h.resolve_left g156⟩))) (Sub.cons (look_eq rfl (iV (by omega))) (Sub.nil))))))) (show w99 = _ ∧ (i + 1) ≤ S from ?_) (show S - (i + 1) < S - i from ?_)
                  · exact ⟨rfl, by omega⟩
                  · omega
                · refine W.wants rfl rfl rfl rfl ?_
                  refine W.move rfl rfl ?_
                  refine W.wants rfl rfl rfl rfl ?_
                  refine W.move rfl rfl ?_
                  refine W.wants rfl rfl rfl rfl ?_
                  refine W.indexS (i := (i : Int)) XI Try.underlying22 rfl hSB rfl ⟨by omega, by omega⟩ rfl ?_
                  intro ad159 _ _ hc159
                  refine W.wants rfl rfl rfl rfl ?_
                  refine W.load (v := .int .i64 ((setL B n)[i]'hlt)) rfl Try.underlying3 rfl (by have h := hc159 0 (.int .i64 ((setL B n)[i]'hlt)) (by rw [List.getElem?_drop, Int.toNat_natCast, Nat.mul_one, Nat.add_zero]; exact get_z hlt); rwa [add_zero'] at h) rfl ?_
                  refine W.wants rfl rfl rfl rfl ?_
                  refine W.move rfl rfl ?_
                  refine W.wants rfl rfl rfl rfl ?_
                  refine W.eqlI rfl rfl rfl ?_
                  refine W.pickF rfl rfl rfl ?_
                  refine W.assign rfl rfl ?_
                  refine W.nil ?_
                  refine At.blockNormal ?_
                  refine At.thenCode ?_
                  refine C.region ?_
                  refine W.move rfl rfl ?_
                  first | refine W.addI rfl rfl (by omega) rfl ?_ | refine W.addW rfl rfl rfl ?_
                  refine W.assign rfl rfl ?_
                  refine W.nil ?_
                  refine At.thenRound (i + 1) (Sub.cons (rfl) (Sub.cons (rfl) (Sub.cons (rfl) (Sub.cons (rfl) (Sub.cons (look_eq rfl (by first | exact decT (by rw [htk]; exact Or.inl g156) | exact decE (by rw [htk]; exact ⟨Or.inr, fun h => h.resolve_left g156⟩))) (Sub.cons (look_eq rfl (iV (by omega))) (Sub.nil))))))) (show w99 = _ ∧ (i + 1) ≤ S from ?_) (show S - (i + 1) < S - i from ?_)
                  · exact ⟨rfl, by omega⟩
                  · omega
              · obtain rfl : S = i := by omega
                refine C.exit ?_
                refine At.thenExit ?_
                refine At.thenExit ?_
                refine At.blockSelf ?_
                refine At.thenCode ?_
                refine C.seq ?_
                refine C.region ?_
                refine W.move rfl rfl ?_
                refine W.eqv (v' := .bool true) (rfl) ?_
                refine W.move rfl rfl ?_
                refine W.wants rfl rfl rfl rfl ?_
                refine W.move rfl rfl ?_
                refine W.eqv (v' := .bool true) (bT (by rw [List.take_of_length_le (by omega)]; exact hin.2)) ?_
                refine W.pickT rfl rfl rfl ?_
                refine W.assign rfl rfl ?_
                refine W.nil ?_
                refine At.thenCode ?_
                refine C.ret ?_
                refine At.ret1 Try.results10 rfl ?_
                first | exact ⟨rfl, Ext.below (((hX19.ext hX86).ext hX92).ext hX99)⟩ | exact ⟨rfl, Ext.below hX19⟩
      · refine W.skips rfl rfl rfl rfl rfl rfl ?_
        refine W.skips rfl rfl rfl rfl rfl rfl ?_
        refine W.skips rfl rfl rfl rfl rfl rfl ?_
        refine W.skips rfl rfl rfl rfl rfl rfl ?_
        refine W.skips rfl rfl rfl rfl rfl rfl ?_
        refine W.skips rfl rfl rfl rfl rfl rfl ?_
        refine W.skips rfl rfl rfl rfl rfl rfl ?_
        refine W.wants rfl rfl rfl rfl ?_
        refine W.pickF rfl rfl rfl ?_
        refine W.pickF rfl rfl rfl ?_
        refine W.move rfl rfl ?_
        refine W.wants rfl rfl rfl rfl ?_
        refine W.move rfl rfl ?_
        refine W.wants rfl rfl rfl rfl ?_
        refine W.lssI rfl rfl rfl ?_
        refine W.pickF rfl rfl rfl ?_
        refine W.move rfl rfl ?_
        first | refine W.splitD (fun g61 => ?_) (fun g61 => ?_) | refine W.splitB (fun g61 => ?_) (fun g61 => ?_)
        · refine W.skips rfl rfl rfl rfl rfl rfl ?_
          refine W.skips rfl rfl rfl rfl rfl rfl ?_
          refine W.pickT rfl rfl rfl ?_
          refine W.nil ?_
          refine At.thenCode ?_
          refine C.condT rfl ?_
          refine C.seq ?_
          refine C.region ?_
          refine W.move rfl rfl ?_
          refine W.geqI rfl rfl rfl ?_
          refine W.eqv (bT (by omega)) ?_
          refine W.move rfl rfl ?_
          refine W.wants rfl rfl rfl rfl ?_
          refine W.move rfl rfl ?_
          refine W.wants rfl rfl rfl rfl ?_
          refine W.lssI rfl rfl rfl ?_
          refine W.wants rfl rfl rfl rfl ?_
          refine W.move rfl rfl ?_
          first | refine W.splitD (fun g70 => ?_) (fun g70 => ?_) | refine W.splitB (fun g70 => ?_) (fun g70 => ?_)
          · refine W.skips rfl rfl rfl rfl rfl rfl ?_
            refine W.skips rfl rfl rfl rfl rfl rfl ?_
            refine W.wants rfl rfl rfl rfl ?_
            refine W.pickT rfl rfl rfl ?_
            refine W.eqv (v' := .bool true) (by first | rfl | (exact bT (by omega))) ?_
            refine W.pickT rfl rfl rfl ?_
            refine W.assign rfl rfl ?_
            refine W.nil ?_
            refine At.thenCode ?_
            refine C.ret ?_
            refine At.thenRet ?_
            refine At.ret1 Try.results10 rfl ?_
            first | exact ⟨rfl, Ext.below (((hX19.ext hX86).ext hX92).ext hX99)⟩ | exact ⟨rfl, Ext.below hX19⟩
          · refine W.wants rfl rfl rfl rfl ?_
            refine W.move rfl rfl ?_
            refine W.wants rfl rfl rfl rfl ?_
            refine W.lssI rfl rfl rfl ?_
            refine W.wants rfl rfl rfl rfl ?_
            refine W.pickF rfl rfl rfl ?_
            refine W.eqv (v' := .bool true) (by first | rfl | (exact bT (by omega))) ?_
            refine W.pickT rfl rfl rfl ?_
            refine W.assign rfl rfl ?_
            refine W.nil ?_
            refine At.thenCode ?_
            refine C.ret ?_
            refine At.thenRet ?_
            refine At.ret1 Try.results10 rfl ?_
            first | exact ⟨rfl, Ext.below (((hX19.ext hX86).ext hX92).ext hX99)⟩ | exact ⟨rfl, Ext.below hX19⟩
        · refine W.wants rfl rfl rfl rfl ?_
          refine W.move rfl rfl ?_
          refine W.wants rfl rfl rfl rfl ?_
          refine W.lssI rfl rfl rfl ?_
          refine W.pickF rfl rfl rfl ?_
          refine W.nil ?_
          refine At.thenCode ?_
          first | refine C.condD rfl (fun c64 => ?_) (fun c64 => ?_) | refine C.cond rfl (fun c64 => ?_) (fun c64 => ?_)
          · have hneg : a < 0 ∨ b < 0 := by omega
            refine C.seq ?_
            refine C.region ?_
            refine W.move rfl rfl ?_
            refine W.geqI rfl rfl rfl ?_
            refine W.eqv (bT (by omega)) ?_
            refine W.move rfl rfl ?_
            refine W.wants rfl rfl rfl rfl ?_
            refine W.move rfl rfl ?_
            refine W.wants rfl rfl rfl rfl ?_
            refine W.lssI rfl rfl rfl ?_
            refine W.wants rfl rfl rfl rfl ?_
            refine W.move rfl rfl ?_
            first | refine W.splitD (fun g70 => ?_) (fun g70 => ?_) | refine W.splitB (fun g70 => ?_) (fun g70 => ?_)
            · refine W.skips rfl rfl rfl rfl rfl rfl ?_
              refine W.skips rfl rfl rfl rfl rfl rfl ?_
              refine W.wants rfl rfl rfl rfl ?_
              refine W.pickT rfl rfl rfl ?_
              refine W.eqv (v' := .bool true) (by first | rfl | (exact bT (by omega))) ?_
              refine W.pickT rfl rfl rfl ?_
              refine W.assign rfl rfl ?_
              refine W.nil ?_
              refine At.thenCode ?_
              refine C.ret ?_
              refine At.thenRet ?_
              refine At.ret1 Try.results10 rfl ?_
              first | exact ⟨rfl, Ext.below (((hX19.ext hX86).ext hX92).ext hX99)⟩ | exact ⟨rfl, Ext.below hX19⟩
            · refine W.wants rfl rfl rfl rfl ?_
              refine W.move rfl rfl ?_
              refine W.wants rfl rfl rfl rfl ?_
              refine W.lssI rfl rfl rfl ?_
              refine W.wants rfl rfl rfl rfl ?_
              refine W.pickF rfl rfl rfl ?_
              refine W.eqv (v' := .bool true) (by first | rfl | (exact bT (by omega))) ?_
              refine W.pickT rfl rfl rfl ?_
              refine W.assign rfl rfl ?_
              refine W.nil ?_
              refine At.thenCode ?_
              refine C.ret ?_
              refine At.thenRet ?_
              refine At.ret1 Try.results10 rfl ?_
              first | exact ⟨rfl, Ext.below (((hX19.ext hX86).ext hX92).ext hX99)⟩ | exact ⟨rfl, Ext.below hX19⟩
          · obtain ⟨A, hA⟩ : ∃ A, A = a % ((S : Int) + 1) := ⟨_, rfl⟩
            obtain ⟨B, hB⟩ : ∃ B, B = b % ((S : Int) + 1) := ⟨_, rfl⟩
            have hA0 : 0 ≤ A ∧ A < (S : Int) + 1 := by rw [hA]; exact ⟨Int.emod_nonneg _ (by omega), Int.emod_lt_of_pos _ (by omega)⟩
            have hB0 : 0 ≤ B ∧ B < (S : Int) + 1 := by rw [hB]; exact ⟨Int.emod_nonneg _ (by omega), Int.emod_lt_of_pos _ (by omega)⟩
            have hgA : groupOk A n := ⟨hok, by omega, by omega⟩
            have hgB : groupOk B n := ⟨hok, by omega, by omega⟩
            have hlA := setL_length hgA
            have hlB := setL_length hgB
            have hRA : setR A n = setL A n := by unfold setR; rw [if_pos hgA]
            have hRB : setR B n = setL B n := by unfold setR; rw [if_pos hgB]
            have hEA : setE A n = 0 := by unfold setE; rw [if_pos hgA]
            have hEB : setE B n = 0 := by unfold setE; rw [if_pos hgB]
            have hSE : sharedE A B n = 0 := by unfold sharedE; rw [if_pos ⟨hgA, hgB⟩]
            have hin : sharedN A B n ∈ setL A n ∧ sharedN A B n ∈ setL B n := by
              unfold sharedN
              rw [if_pos ⟨hgA, hgB⟩]
              by_cases e : A = B
              · rw [if_pos e, ← e]
                have : (setL A n).headD 0 ∈ setL A n := by
                  cases h : setL A n with
                  | nil => rw [h] at hlA; simp at hlA; omega
                  | cons x r => simp
                exact ⟨this, this⟩
              · rw [if_neg e]
                obtain ⟨x, rfl⟩ : ∃ x : Nat, A = x := ⟨A.toNat, by omega⟩
                obtain ⟨y, rfl⟩ : ∃ y : Nat, B = y := ⟨B.toNat, by omega⟩
                refine ⟨setL_mem (by omega) (by omega), ?_⟩
                rw [(pair_comm _ _).1]
                exact setL_mem (by omega) (by omega)
            have hcr := setP_range (g := A) (n := n) hok.1 _ _ hin.1
            obtain ⟨cc, hcc⟩ : ∃ cc, cc = sharedN A B n := ⟨_, rfl⟩
            rw [← hcc] at hin hcr
            rw [← hS] at hlA hlB
            refine C.skip ?_
            refine At.thenCode ?_
            refine C.seq ?_
            refine C.region ?_
            refine W.move rfl rfl ?_
            refine W.move rfl rfl ?_
            first | refine W.addI rfl rfl (by omega) rfl ?_ | refine W.addW rfl rfl rfl ?_
            first | refine W.remI rfl rfl (by omega) rfl ?_ | refine W.remW rfl rfl (by omega) rfl ?_
            rw [← hA]
            refine W.assign rfl rfl ?_
            refine W.nil ?_
            refine At.thenCode ?_
            refine C.seq ?_
            refine C.region ?_
            refine W.move rfl rfl ?_
            refine W.move rfl rfl ?_
            first | refine W.addI rfl rfl (by omega) rfl ?_ | refine W.addW rfl rfl rfl ?_
            first | refine W.remI rfl rfl (by omega) rfl ?_ | refine W.remW rfl rfl (by omega) rfl ?_
            rw [← hB]
            refine W.assign rfl rfl ?_
            refine W.nil ?_
            refine At.thenCode ?_
            refine C.seq ?_
            refine C.region ?_
            refine W.move rfl rfl ?_
            refine W.move rfl rfl ?_
            refine W.call Try.call34 rfl (Sets.Set_ok _ _ _ (by omega) (by omega)) rfl ?_
            rintro v86 w86 ⟨⟨ao86, c86, rfl, hS86, hfS86⟩, hX86⟩
            rw [hRA] at hS86 ⊢
            rw [hEA]
            refine W.move rfl rfl ?_
            refine W.extract rfl rfl rfl ?_
            refine W.extract rfl rfl rfl ?_
            refine W.assign rfl rfl ?_
            refine W.assign rfl rfl ?_
            refine W.nil ?_
            refine At.thenCode ?_
            refine C.seq ?_
            refine C.region ?_
            refine W.move rfl rfl ?_
            refine W.move rfl rfl ?_
            refine W.call Try.call34 rfl (Sets.Set_ok _ _ _ (by omega) (by omega)) rfl ?_
            rintro v92 w92 ⟨⟨ao92, c92, rfl, hS92, hfS92⟩, hX92⟩
            rw [hRB] at hS92 ⊢
            rw [hEB]
            refine W.move rfl rfl ?_
            refine W.extract rfl rfl rfl ?_
            refine W.extract rfl rfl rfl ?_
            refine W.assign rfl rfl ?_
            refine W.assign rfl rfl ?_
            refine W.nil ?_
            refine At.thenCode ?_
            refine C.seq ?_
            refine C.region ?_
            refine W.move rfl rfl ?_
            refine W.move rfl rfl ?_
            refine W.move rfl rfl ?_
            refine W.call Try.call35 rfl (Sets.Shared_ok _ _ _ _ (by omega) (by omega) (by omega)) rfl ?_
            rintro v99 w99 ⟨rfl, hX99⟩
            rw [← hcc, hSE]
            have hSA := (Sl.ext (Sl.ext hS86 hX92) hX99 : Zs w99 ao86 c86 (setL A n))
            have hSB := (Sl.ext hS92 hX99 : Zs w99 ao92 c92 (setL B n))
            refine W.move rfl rfl ?_
            refine W.extract rfl rfl rfl ?_
            refine W.extract rfl rfl rfl ?_
            refine W.assign rfl rfl ?_
            refine W.assign rfl rfl ?_
            refine W.nil ?_
            refine At.thenCode ?_
            refine C.seq ?_
            refine C.seq ?_
            refine C.region ?_
            refine W.move rfl rfl ?_
            refine W.call Try.call32 rfl (num_ok _ _) rfl ?_
            rintro v103 w103 ⟨rfl, rfl⟩
            refine W.neqI rfl rfl rfl ?_
            refine W.eqv (bF (by omega)) ?_
            refine W.move rfl rfl ?_
            refine W.wants rfl rfl rfl rfl ?_
            refine W.move rfl rfl ?_
            refine W.wants rfl rfl rfl rfl ?_
            refine W.call Try.call32 rfl (num_ok _ _) rfl ?_
            rintro v107 w107 ⟨rfl, rfl⟩
            refine W.wants rfl rfl rfl rfl ?_
            refine W.neqI rfl rfl rfl ?_
            refine W.eqv (bF (by omega)) ?_
            refine W.pickF rfl rfl rfl ?_
            refine W.move rfl rfl ?_
            refine W.wants rfl rfl rfl rfl ?_
            refine W.move rfl rfl ?_
            refine W.wants rfl rfl rfl rfl ?_
            refine W.call Try.call32 rfl (num_ok _ _) rfl ?_
            rintro v112 w112 ⟨rfl, rfl⟩
            refine W.wants rfl rfl rfl rfl ?_
            refine W.neqI rfl rfl rfl ?_
            refine W.eqv (bF (by omega)) ?_
            refine W.pickF rfl rfl rfl ?_
            refine W.move rfl rfl ?_
            refine W.wants rfl rfl rfl rfl ?_
            refine W.move rfl rfl ?_
            refine W.wants rfl rfl rfl rfl ?_
            refine W.lenS rfl Try.underlying22 rfl ?_
            refine W.wants rfl rfl rfl rfl ?_
            refine W.move rfl rfl ?_
            refine W.wants rfl rfl rfl rfl ?_
            refine W.neqI rfl rfl rfl ?_
            refine W.eqv (bF (by omega)) ?_
            refine W.pickF rfl rfl rfl ?_
            refine W.move rfl rfl ?_
            refine W.wants rfl rfl rfl rfl ?_
            refine W.move rfl rfl ?_
            refine W.wants rfl rfl rfl rfl ?_
            refine W.lenS rfl Try.underlying22 rfl ?_
            refine W.wants rfl rfl rfl rfl ?_
            refine W.move rfl rfl ?_
            refine W.wants rfl rfl rfl rfl ?_
            refine W.neqI rfl rfl rfl ?_
            refine W.eqv (bF (by omega)) ?_
            refine W.pickF rfl rfl rfl ?_
            refine W.move rfl rfl ?_
            refine W.wants rfl rfl rfl rfl ?_
            refine W.move rfl rfl ?_
            refine W.wants rfl rfl rfl rfl ?_
            refine W.lssI rfl rfl rfl ?_
            refine W.eqv (bF (by omega)) ?_
            refine W.pickF rfl rfl rfl ?_
            refine W.move rfl rfl ?_
            refine W.wants rfl rfl rfl rfl ?_
            refine W.move rfl rfl ?_
            refine W.wants rfl rfl rfl rfl ?_
            refine W.move rfl rfl ?_
            refine W.wants rfl rfl rfl rfl ?_
            refine W.geqI rfl rfl rfl ?_
            refine W.eqv (bF (by omega)) ?_
            refine W.pickF rfl rfl rfl ?_
            refine W.nil ?_
            refine At.thenCode ?_
            refine C.condF rfl ?_
            refine C.skip ?_
            refine At.thenCode ?_
            refine C.seq ?_
            refine C.region ?_
            refine W.assign rfl rfl ?_
            refine W.nil ?_
            refine At.thenCode ?_
            refine C.seq ?_
            refine C.seq ?_
            refine C.region ?_
            refine W.assign rfl rfl ?_
            refine W.nil ?_
            refine At.thenCode ?_
            refine C.block ?_
            refine C.loop (X := Nat) (fun x_ => [(8, .int .i64 (S : Int)), (9, .slice ao86 (setL A n).length c86), (11, .slice ao92 (setL B n).length c92), (13, .int .i64 cc), (15, .bool (decide (cc ∈ (setL A n).take x_))), (16, .int .i64 (x_ : Int))]) (fun x_ w1 => w99 = w1 ∧ x_ ≤ S) (fun x_ => S - x_) (0) (Sub.cons (rfl) (Sub.cons (rfl) (Sub.cons (rfl) (Sub.cons (rfl) (Sub.cons (rfl) (Sub.cons (rfl) (Sub.nil))))))) ?start3 ?_
            case start3 =>
              show w99 = _ ∧ (0) ≤ S
              exact ⟨rfl, by omega⟩
            rintro i w1 hI_
            replace hI_ : w99 = w1 ∧ i ≤ S := hI_
            obtain ⟨rfl, hi⟩ := hI_
            refine C.weaken (l' := [(8, .int .i64 (S : Int)), (9, .slice ao86 (setL A n).length c86), (11, .slice ao92 (setL B n).length c92), (13, .int .i64 cc), (15, .bool (decide (cc ∈ (setL A n).take i))), (16, .int .i64 (i : Int))]) (Sub.cons (rfl) (Sub.cons (rfl) (Sub.cons (rfl) (Sub.cons (rfl) (Sub.cons (rfl) (Sub.cons (rfl) (Sub.nil))))))) ?_
            refine C.seq ?_
            refine C.seq ?_
            refine C.region ?_
            refine W.move rfl rfl ?_
            refine W.move rfl rfl ?_
            refine W.lssI rfl rfl rfl ?_
            refine W.nil ?_
            refine At.thenCode ?_
            first | refine C.condD rfl (fun c138 => ?_) (fun c138 => ?_) | refine C.cond rfl (fun c138 => ?_) (fun c138 => ?_)
            · have hlt : i < (setL A n).length := by omega
              have htk : ∀ p : Prop, (cc ∈ (setL A n).take (i + 1)) ↔ (cc ∈ (setL A n).take i ∨ (setL A n)[i]'hlt = cc) := fun _ => by
                rw [List.take_succ_eq_append_getElem hlt, List.mem_append, List.mem_singleton]
                exact or_congr Iff.rfl eq_comm
              have htk := htk True
              refine C.skip ?_
              refine At.thenCode ?_
              refine C.seq ?_
              refine C.block ?_
              refine C.region ?_
              refine W.move rfl rfl ?_
              refine W.move rfl rfl ?_
              first | refine W.splitD (fun g142 => ?_) (fun g142 => ?_) | refine W.splitB (fun g142 => ?_) (fun g142 => ?_)
              · refine W.skips rfl rfl rfl rfl rfl rfl ?_
                refine W.skips rfl rfl rfl rfl rfl rfl ?_
                refine W.skips rfl rfl rfl rfl rfl rfl ?_
                refine W.skips rfl rfl rfl rfl rfl rfl ?_
                refine W.skips rfl rfl rfl rfl rfl rfl ?_
                refine W.skips rfl rfl rfl rfl rfl rfl ?_
                refine W.pickT rfl rfl rfl ?_
                refine W.assign rfl rfl ?_
                refine W.nil ?_
                refine At.blockNormal ?_
                refine At.thenCode ?_
                refine C.region ?_
                refine W.move rfl rfl ?_
                first | refine W.addI rfl rfl (by omega) rfl ?_ | refine W.addW rfl rfl rfl ?_
                refine W.assign rfl rfl ?_
                refine W.nil ?_
                refine At.thenRound (i + 1) (Sub.cons (rfl) (Sub.cons (rfl) (Sub.cons (rfl) (Sub.cons (rfl) (Sub.cons (look_eq rfl (by first | exact decT (by rw [htk]; exact Or.inl g142) | exact decE (by rw [htk]; exact ⟨Or.inr, fun h => h.resolve_left g142⟩))) (Sub.cons (look_eq rfl (iV (by omega))) (Sub.nil))))))) (show w99 = _ ∧ (i + 1) ≤ S from ?_) (show S - (i + 1) < S - i from ?_)
                · exact ⟨rfl, by omega⟩
                · omega
              · refine W.wants rfl rfl rfl rfl ?_
                refine W.move rfl rfl ?_
                refine W.wants rfl rfl rfl rfl ?_
                refine W.move rfl rfl ?_
                refine W.wants rfl rfl rfl rfl ?_
                refine W.indexS (i := (i : Int)) XI Try.underlying22 rfl hSA rfl ⟨by omega, by omega⟩ rfl ?_
                intro ad145 _ _ hc145
                refine W.wants rfl rfl rfl rfl ?_
                refine W.load (v := .int .i64 ((setL A n)[i]'hlt)) rfl Try.underlying3 rfl (by have h := hc145 0 (.int .i64 ((setL A n)[i]'hlt)) (by rw [List.getElem?_drop, Int.toNat_natCast, Nat.mul_one, Nat.add_zero]; exact get_z hlt); rwa [add_zero'] at h) rfl ?_
                refine W.wants rfl rfl rfl rfl ?_
                refine W.move rfl rfl ?_
                refine W.wants rfl rfl rfl rfl ?_
                refine W.eqlI rfl rfl rfl ?_
                refine W.pickF rfl rfl rfl ?_
                refine W.assign rfl rfl ?_
                refine W.nil ?_
                refine At.blockNormal ?_
                refine At.thenCode ?_
                refine C.region ?_
                refine W.move rfl rfl ?_
                first | refine W.addI rfl rfl (by omega) rfl ?_ | refine W.addW rfl rfl rfl ?_
                refine W.assign rfl rfl ?_
                refine W.nil ?_
                refine At.thenRound (i + 1) (Sub.cons (rfl) (Sub.cons (rfl) (Sub.cons (rfl) (Sub.cons (rfl) (Sub.cons (look_eq rfl (by first | exact decT (by rw [htk]; exact Or.inl g142) | exact decE (by rw [htk]; exact ⟨Or.inr, fun h => h.resolve_left g142⟩))) (Sub.cons (look_eq rfl (iV (by omega))) (Sub.nil))))))) (show w99 = _ ∧ (i + 1) ≤ S from ?_) (show S - (i + 1) < S - i from ?_)
                · exact ⟨rfl, by omega⟩
                · omega
            · obtain rfl : S = i := by omega
              refine C.exit ?_
              refine At.thenExit ?_
              refine At.thenExit ?_
              refine At.blockSelf ?_
              refine At.thenCode ?_
              refine C.seq ?_
              refine C.region ?_
              refine W.assign rfl rfl ?_
              refine W.nil ?_
              refine At.thenCode ?_
              refine C.seq ?_
              refine C.seq ?_
              refine C.region ?_
              refine W.assign rfl rfl ?_
              refine W.nil ?_
              refine At.thenCode ?_
              refine C.block ?_
              refine C.loop (X := Nat) (fun x_ => [(8, .int .i64 (S : Int)), (11, .slice ao92 (setL B n).length c92), (13, .int .i64 cc), (15, .bool true), (17, .bool (decide (cc ∈ (setL B n).take x_))), (18, .int .i64 (x_ : Int))]) (fun x_ w2 => w99 = w2 ∧ x_ ≤ S) (fun x_ => S - x_) (0) (Sub.cons (rfl) (Sub.cons (rfl) (Sub.cons (rfl) (Sub.cons (look_eq rfl (bT (by rw [List.take_of_length_le (by omega)]; exact hin.1))) (Sub.cons (rfl) (Sub.cons (rfl) (Sub.nil))))))) ?start4 ?_
              case start4 =>
                show w99 = _ ∧ (0) ≤ S
                exact ⟨rfl, by omega⟩
              rintro i w2 hI_
              replace hI_ : w99 = w2 ∧ i ≤ S := hI_
              obtain ⟨rfl, hi⟩ := hI_
              refine C.weaken (l' := [(8, .int .i64 (S : Int)), (11, .slice ao92 (setL B n).length c92), (13, .int .i64 cc), (15, .bool true), (17, .bool (decide (cc ∈ (setL B n).take i))), (18, .int .i64 (i : Int))]) (Sub.cons (rfl) (Sub.cons (rfl) (Sub.cons (rfl) (Sub.cons (rfl) (Sub.cons (rfl) (Sub.cons (rfl) (Sub.nil))))))) ?_
              refine C.seq ?_
              refine C.seq ?_
              refine C.region ?_
              refine W.move rfl rfl ?_
              refine W.move rfl rfl ?_
              refine W.lssI rfl rfl rfl ?_
              refine W.nil ?_
              refine At.thenCode ?_
              first | refine C.condD rfl (fun c152 => ?_) (fun c152 => ?_) | refine C.cond rfl (fun c152 => ?_) (fun c152 => ?_)
              · have hlt : i < (setL B n).length := by omega
                have htk : (cc ∈ (setL B n).take (i + 1)) ↔ (cc ∈ (setL B n).take i ∨ (setL B n)[i]'hlt = cc) := by
                  rw [List.take_succ_eq_append_getElem hlt, List.mem_append, List.mem_singleton]
                  exact or_congr Iff.rfl eq_comm
                refine C.skip ?_
                refine At.thenCode ?_
                refine C.seq ?_
                refine C.block ?_
                refine C.region ?_
                refine W.move rfl rfl ?_
                refine W.move rfl rfl ?_
                first | refine W.splitD (fun g156 => ?_) (fun g156 => ?_) | refine W.splitB (fun g156 => ?_) (fun g156 => ?_)
                · refine W.skips rfl rfl rfl rfl rfl rfl ?_
                  refine W.skips rfl rfl rfl rfl rfl rfl ?_
                  refine W.skips rfl rfl rfl rfl rfl rfl ?_
                  refine W.skips rfl rfl rfl rfl rfl rfl ?_
                  refine W.skips rfl rfl rfl rfl rfl rfl ?_
                  refine W.skips rfl rfl rfl rfl rfl rfl ?_
                  refine W.pickT rfl rfl rfl ?_
                  refine W.assign rfl rfl ?_
                  refine W.nil ?_
                  refine At.blockNormal ?_
                  refine At.thenCode ?_
                  refine C.region ?_
                  refine W.move rfl rfl ?_
                  first | refine W.addI rfl rfl (by omega) rfl ?_ | refine W.addW rfl rfl rfl ?_
                  refine W.assign rfl rfl ?_
                  refine W.nil ?_
                  refine At.thenRound (i + 1) (Sub.cons (rfl) (Sub.cons (rfl) (Sub.cons (rfl) (Sub.cons (rfl) (Sub.cons (look_eq rfl (by first | exact decT (by rw [htk]; exact Or.inl g156) | exact decE (by rw [htk]; exact ⟨Or.inr, fun h => h.resolve_left g156⟩))) (Sub.cons (look_eq rfl (iV (by omega))) (Sub.nil))))))) (show w99 = _ ∧ (i + 1) ≤ S from ?_) (show S - (i + 1) < S - i from ?_)
                  · exact ⟨rfl, by omega⟩
                  · omega
                · refine W.wants rfl rfl rfl rfl ?_
                  refine W.move rfl rfl ?_
                  refine W.wants rfl rfl rfl rfl ?_
                  refine W.move rfl rfl ?_
                  refine W.wants rfl rfl rfl rfl ?_
                  refine W.indexS (i := (i : Int)) XI Try.underlying22 rfl hSB rfl ⟨by omega, by omega⟩ rfl ?_
                  intro ad159 _ _ hc159
                  refine W.wants rfl rfl rfl rfl ?_
                  refine W.load (v := .int .i64 ((setL B n)[i]'hlt)) rfl Try.underlying3 rfl (by have h := hc159 0 (.int .i64 ((setL B n)[i]'hlt)) (by rw [List.getElem?_drop, Int.toNat_natCast, Nat.mul_one, Nat.add_zero]; exact get_z hlt); rwa [add_zero'] at h) rfl ?_
                  refine W.wants rfl rfl rfl rfl ?_
                  refine W.move rfl rfl ?_
                  refine W.wants rfl rfl rfl rfl ?_
                  refine W.eqlI rfl rfl rfl ?_
                  refine W.pickF rfl rfl rfl ?_
                  refine W.assign rfl rfl ?_
                  refine W.nil ?_
                  refine At.blockNormal ?_
                  refine At.thenCode ?_
                  refine C.region ?_
                  refine W.move rfl rfl ?_
                  first | refine W.addI rfl rfl (by omega) rfl ?_ | refine W.addW rfl rfl rfl ?_
                  refine W.assign rfl rfl ?_
                  refine W.nil ?_
                  refine At.thenRound (i + 1) (Sub.cons (rfl) (Sub.cons (rfl) (Sub.cons (rfl) (Sub.cons (rfl) (Sub.cons (look_eq rfl (by first | exact decT (by rw [htk]; exact Or.inl g156) | exact decE (by rw [htk]; exact ⟨Or.inr, fun h => h.resolve_left g156⟩))) (Sub.cons (look_eq rfl (iV (by omega))) (Sub.nil))))))) (show w99 = _ ∧ (i + 1) ≤ S from ?_) (show S - (i + 1) < S - i from ?_)
                  · exact ⟨rfl, by omega⟩
                  · omega
              · obtain rfl : S = i := by omega
                refine C.exit ?_
                refine At.thenExit ?_
                refine At.thenExit ?_
                refine At.blockSelf ?_
                refine At.thenCode ?_
                refine C.seq ?_
                refine C.region ?_
                refine W.move rfl rfl ?_
                refine W.eqv (v' := .bool true) (rfl) ?_
                refine W.move rfl rfl ?_
                refine W.wants rfl rfl rfl rfl ?_
                refine W.move rfl rfl ?_
                refine W.eqv (v' := .bool true) (bT (by rw [List.take_of_length_le (by omega)]; exact hin.2)) ?_
                refine W.pickT rfl rfl rfl ?_
                refine W.assign rfl rfl ?_
                refine W.nil ?_
                refine At.thenCode ?_
                refine C.ret ?_
                refine At.ret1 Try.results10 rfl ?_
                first | exact ⟨rfl, Ext.below (((hX19.ext hX86).ext hX92).ext hX99)⟩ | exact ⟨rfl, Ext.below hX19⟩
end Go.Proofs.Ytnldohjhjoldaaa.Law15
