/- The walk of chapter 15's law on sets, shared chains and groups of names. -/
import Derived.Test.YtomfnficblnngaaLaw15
import Derived.Test.YtomfnficblnngaaSets3
import Derived.Test.YtomfnficblnngaaInts
namespace Go.Proofs.Ytomfnficblnngaa.Law15
open Go Go.RowKit Go.Proofs.Ytomfnficblnngaa.KW Go.Proofs.Ytomfnficblnngaa.Words Go.Proofs.Ytomfnficblnngaa.Sets Go.Proofs.Ytomfnficblnngaa.Sha
set_option linter.unusedVariables false
set_option linter.unusedSimpArgs false
set_option maxRecDepth 100000
theorem setR_max (g n : Int) : (setR g n).length ≤ 1450 := by
  unfold setR
  split
  · have := setP_max g n (sidesN n + 1); have := sidesN_le n; unfold setL; omega
  · simp
theorem SetsTell_walk (a b n : Int) (name : List UInt8) (w : World) (ha : -9223372036854775808 ≤ a ∧ a ≤ 9223372036854775807) (hb : -9223372036854775808 ≤ b ∧ b ≤ 9223372036854775807) (hn : -9223372036854775808 ≤ n ∧ n ≤ 9223372036854775807) (hs : name.length = 32) :
    Ct Try.prog 12 #[.int .i64 a, .int .i64 b, .int .i64 n, keyV name] w (LawOk w) := by
  refine Ct.enter [(0, .int .i64 a), (1, .int .i64 b), (2, .int .i64 n), (3, keyV name)] Try.func12 rfl rfl rfl rfl ?_
  have hL := setR_max a n
  refine C.seq ?_
  refine C.region ?_
  refine W.box (name.map byteV) rfl rfl rfl ?_
  intro g7 w7 hg7 hX7 hB7
  refine W.assign rfl rfl ?_
  refine W.nil ?_
  refine At.thenCode ?_
  refine C.seq ?_
  refine C.region ?_
  refine W.call Try.call33 rfl (alive_ok _) rfl ?_
  rintro v22 w22 ⟨rfl, hX22⟩
  have hB7a := hB7.ext hX22
  refine W.assign rfl rfl ?_
  refine W.nil ?_
  refine At.thenCode ?_
  refine C.seq ?_
  refine C.seq ?_
  refine C.region ?_
  refine W.move rfl rfl ?_
  first | refine W.notD rfl rfl ?_ | refine W.notB rfl rfl ?_
  refine W.move rfl rfl ?_
  refine W.wants rfl rfl rfl rfl ?_
  refine W.move rfl rfl ?_
  refine W.wants rfl rfl rfl rfl ?_
  refine W.gtrI rfl rfl rfl ?_
  refine W.wants rfl rfl rfl rfl ?_
  refine W.move rfl rfl ?_
  first | refine W.splitD (fun g28 => ?_) (fun g28 => ?_) | refine W.splitB (fun g28 => ?_) (fun g28 => ?_)
  · refine W.wants rfl rfl rfl rfl ?_
    refine W.move rfl rfl ?_
    refine W.wants rfl rfl rfl rfl ?_
    refine W.leqI rfl rfl rfl ?_
    refine W.wants rfl rfl rfl rfl ?_
    refine W.pickT rfl rfl rfl ?_
    refine W.pickF rfl rfl rfl ?_
    refine W.nil ?_
    refine At.thenCode ?_
    first | refine C.condD rfl (fun c32 => ?_) (fun c32 => ?_) | refine C.cond rfl (fun c32 => ?_) (fun c32 => ?_)
    · refine C.seq ?_
      refine C.region ?_
      refine W.move rfl rfl ?_
      refine W.assign rfl rfl ?_
      refine W.nil ?_
      refine At.thenCode ?_
      refine C.ret ?_
      refine At.thenRet ?_
      refine At.ret1 Try.results12 rfl ?_
      first
      | exact ⟨rfl, Ext.below (((((hX43a.ext hX48).ext hX67).ext hX74).ext hX80).ext hX86)⟩
      | exact ⟨rfl, Ext.below (hX7.ext hX22)⟩
    · refine C.skip ?_
      refine At.thenCode ?_
      refine C.seq ?_
      refine C.region ?_
      refine W.move rfl rfl ?_
      refine W.move rfl rfl ?_
      refine W.call Try.call34 rfl (Sets.Set_ok _ _ _ (by omega) (by omega)) rfl ?_
      rintro v37 w37 ⟨⟨ao37, c37, rfl, hS37, hfS37⟩, hX37⟩
      refine W.move rfl rfl ?_
      refine W.extract rfl rfl rfl ?_
      refine W.extract rfl rfl rfl ?_
      refine W.assign rfl rfl ?_
      refine W.assign rfl rfl ?_
      refine W.nil ?_
      refine At.thenCode ?_
      refine C.seq ?_
      refine C.region ?_
      refine W.move rfl rfl ?_
      refine W.move rfl rfl ?_
      refine W.call Try.call35 rfl (Sets.RSet_ok _ _ _ (by omega) (by omega)) rfl ?_
      rintro v43 w43 ⟨⟨ao43, c43, rfl, hS43, hfS43⟩, hX43⟩
      have hS37b := hS37.ext hX43
      have hX43a := (((hX7.ext hX22).ext hX37).ext hX43)
      refine W.move rfl rfl ?_
      refine W.extract rfl rfl rfl ?_
      refine W.extract rfl rfl rfl ?_
      refine W.assign rfl rfl ?_
      refine W.assign rfl rfl ?_
      refine W.nil ?_
      refine At.thenCode ?_
      refine C.seq ?_
      refine C.seq ?_
      refine C.region ?_
      refine W.move rfl rfl ?_
      refine W.move rfl rfl ?_
      refine W.call Try.call27 rfl (Ints.SameInts_ok _ _ _ _ _ _ _ (by assumption) (by assumption) (by omega)) rfl ?_
      rintro v48 w48 ⟨rfl, hX48⟩
      first | refine W.notD rfl rfl ?_ | refine W.notB rfl rfl ?_
      refine W.eqv (bF (by simp)) ?_
      refine W.move rfl rfl ?_
      refine W.wants rfl rfl rfl rfl ?_
      refine W.move rfl rfl ?_
      refine W.wants rfl rfl rfl rfl ?_
      refine W.call Try.call36 rfl (num_ok _ _) rfl ?_
      rintro v52 w52 ⟨rfl, rfl⟩
      refine W.wants rfl rfl rfl rfl ?_
      refine W.move rfl rfl ?_
      refine W.wants rfl rfl rfl rfl ?_
      refine W.neqI rfl rfl rfl ?_
      refine W.eqv (bF (by omega)) ?_
      refine W.pickF rfl rfl rfl ?_
      refine W.move rfl rfl ?_
      refine W.wants rfl rfl rfl rfl ?_
      refine W.move rfl rfl ?_
      refine W.wants rfl rfl rfl rfl ?_
      refine W.call Try.call37 rfl (Sets.Sides_ok _ _ (by omega)) rfl ?_
      rintro v58 w58 ⟨rfl, rfl⟩
      refine W.wants rfl rfl rfl rfl ?_
      refine W.move rfl rfl ?_
      refine W.wants rfl rfl rfl rfl ?_
      refine W.call Try.call38 rfl (Sets.RSides_ok _ _ (by omega)) rfl ?_
      rintro v60 w60 ⟨rfl, rfl⟩
      refine W.wants rfl rfl rfl rfl ?_
      refine W.neqI rfl rfl rfl ?_
      refine W.eqv (bF (by omega)) ?_
      refine W.pickF rfl rfl rfl ?_
      refine W.nil ?_
      refine At.thenCode ?_
      refine C.condF rfl ?_
      refine C.skip ?_
      refine At.thenCode ?_
      refine C.seq ?_
      refine C.region ?_
      refine W.move rfl rfl ?_
      refine W.move rfl rfl ?_
      refine W.move rfl rfl ?_
      refine W.call Try.call39 rfl (Sets.Shared_ok _ _ _ _ (by omega) (by omega) (by omega)) rfl ?_
      rintro v67 w67 ⟨rfl, hX67⟩
      refine W.move rfl rfl ?_
      refine W.extract rfl rfl rfl ?_
      refine W.extract rfl rfl rfl ?_
      refine W.assign rfl rfl ?_
      refine W.assign rfl rfl ?_
      refine W.nil ?_
      refine At.thenCode ?_
      refine C.seq ?_
      refine C.region ?_
      refine W.move rfl rfl ?_
      refine W.move rfl rfl ?_
      refine W.move rfl rfl ?_
      refine W.call Try.call40 rfl (Sets.RShared_ok _ _ _ _ (by omega) (by omega) (by omega)) rfl ?_
      rintro v74 w74 ⟨rfl, hX74⟩
      refine W.move rfl rfl ?_
      refine W.extract rfl rfl rfl ?_
      refine W.extract rfl rfl rfl ?_
      refine W.assign rfl rfl ?_
      refine W.assign rfl rfl ?_
      refine W.nil ?_
      refine At.thenCode ?_
      refine C.seq ?_
      refine C.region ?_
      refine W.loadA rfl (Bk.cells (o := 0) ((((((hB7a.ext hX37).ext hX43).ext hX48).ext hX67).ext hX74))) Try.underlying23 rfl (by rw [List.drop_zero, List.length_map, hs]; kernel_rfl) rfl ?_
      rw [List.drop_zero]
      refine W.move rfl rfl ?_
      refine W.call Try.call41 rfl (Sets.Group_ok name n _ hs hn) rfl ?_
      rintro v80 w80 ⟨rfl, hX80⟩
      refine W.move rfl rfl ?_
      refine W.extract rfl rfl rfl ?_
      refine W.extract rfl rfl rfl ?_
      refine W.assign rfl rfl ?_
      refine W.assign rfl rfl ?_
      refine W.nil ?_
      refine At.thenCode ?_
      refine C.seq ?_
      refine C.region ?_
      refine W.loadA rfl (Bk.cells (o := 0) (((((((hB7a.ext hX37).ext hX43).ext hX48).ext hX67).ext hX74).ext hX80))) Try.underlying23 rfl (by rw [List.drop_zero, List.length_map, hs]; kernel_rfl) rfl ?_
      rw [List.drop_zero]
      refine W.move rfl rfl ?_
      refine W.call Try.call42 rfl (Sets.RGroup_ok name n _ hs hn) rfl ?_
      rintro v86 w86 ⟨rfl, hX86⟩
      refine W.move rfl rfl ?_
      refine W.extract rfl rfl rfl ?_
      refine W.extract rfl rfl rfl ?_
      refine W.assign rfl rfl ?_
      refine W.assign rfl rfl ?_
      refine W.nil ?_
      refine At.thenCode ?_
      refine C.seq ?_
      refine C.region ?_
      refine W.move rfl rfl ?_
      refine W.move rfl rfl ?_
      refine W.eqlI rfl rfl rfl ?_
      refine W.eqv (bT (rfl)) ?_
      refine W.move rfl rfl ?_
      refine W.wants rfl rfl rfl rfl ?_
      refine W.move rfl rfl ?_
      refine W.wants rfl rfl rfl rfl ?_
      refine W.call Try.call36 rfl (num_ok _ _) rfl ?_
      rintro v94 w94 ⟨rfl, rfl⟩
      refine W.wants rfl rfl rfl rfl ?_
      refine W.move rfl rfl ?_
      refine W.wants rfl rfl rfl rfl ?_
      refine W.eqlI rfl rfl rfl ?_
      refine W.eqv (bT (rfl)) ?_
      refine W.pickT rfl rfl rfl ?_
      refine W.move rfl rfl ?_
      refine W.wants rfl rfl rfl rfl ?_
      refine W.move rfl rfl ?_
      refine W.wants rfl rfl rfl rfl ?_
      refine W.move rfl rfl ?_
      refine W.wants rfl rfl rfl rfl ?_
      refine W.eqlI rfl rfl rfl ?_
      refine W.eqv (bT (rfl)) ?_
      refine W.pickT rfl rfl rfl ?_
      refine W.move rfl rfl ?_
      refine W.wants rfl rfl rfl rfl ?_
      refine W.move rfl rfl ?_
      refine W.wants rfl rfl rfl rfl ?_
      refine W.call Try.call36 rfl (num_ok _ _) rfl ?_
      rintro v105 w105 ⟨rfl, rfl⟩
      refine W.wants rfl rfl rfl rfl ?_
      refine W.move rfl rfl ?_
      refine W.wants rfl rfl rfl rfl ?_
      refine W.eqlI rfl rfl rfl ?_
      refine W.eqv (bT (rfl)) ?_
      refine W.pickT rfl rfl rfl ?_
      refine W.assign rfl rfl ?_
      refine W.nil ?_
      refine At.thenCode ?_
      refine C.ret ?_
      refine At.ret1 Try.results12 rfl ?_
      first
      | exact ⟨rfl, Ext.below (((((hX43a.ext hX48).ext hX67).ext hX74).ext hX80).ext hX86)⟩
      | exact ⟨rfl, Ext.below (hX7.ext hX22)⟩
  · refine W.skips rfl rfl rfl rfl rfl rfl ?_
    refine W.skips rfl rfl rfl rfl rfl rfl ?_
    refine W.wants rfl rfl rfl rfl ?_
    refine W.pickF rfl rfl rfl ?_
    refine W.pickF rfl rfl rfl ?_
    refine W.nil ?_
    refine At.thenCode ?_
    refine C.condF rfl ?_
    refine C.skip ?_
    refine At.thenCode ?_
    refine C.seq ?_
    refine C.region ?_
    refine W.move rfl rfl ?_
    refine W.move rfl rfl ?_
    refine W.call Try.call34 rfl (Sets.Set_ok _ _ _ (by omega) (by omega)) rfl ?_
    rintro v37 w37 ⟨⟨ao37, c37, rfl, hS37, hfS37⟩, hX37⟩
    refine W.move rfl rfl ?_
    refine W.extract rfl rfl rfl ?_
    refine W.extract rfl rfl rfl ?_
    refine W.assign rfl rfl ?_
    refine W.assign rfl rfl ?_
    refine W.nil ?_
    refine At.thenCode ?_
    refine C.seq ?_
    refine C.region ?_
    refine W.move rfl rfl ?_
    refine W.move rfl rfl ?_
    refine W.call Try.call35 rfl (Sets.RSet_ok _ _ _ (by omega) (by omega)) rfl ?_
    rintro v43 w43 ⟨⟨ao43, c43, rfl, hS43, hfS43⟩, hX43⟩
    have hS37b := hS37.ext hX43
    have hX43a := (((hX7.ext hX22).ext hX37).ext hX43)
    refine W.move rfl rfl ?_
    refine W.extract rfl rfl rfl ?_
    refine W.extract rfl rfl rfl ?_
    refine W.assign rfl rfl ?_
    refine W.assign rfl rfl ?_
    refine W.nil ?_
    refine At.thenCode ?_
    refine C.seq ?_
    refine C.seq ?_
    refine C.region ?_
    refine W.move rfl rfl ?_
    refine W.move rfl rfl ?_
    refine W.call Try.call27 rfl (Ints.SameInts_ok _ _ _ _ _ _ _ (by assumption) (by assumption) (by omega)) rfl ?_
    rintro v48 w48 ⟨rfl, hX48⟩
    first | refine W.notD rfl rfl ?_ | refine W.notB rfl rfl ?_
    refine W.eqv (bF (by simp)) ?_
    refine W.move rfl rfl ?_
    refine W.wants rfl rfl rfl rfl ?_
    refine W.move rfl rfl ?_
    refine W.wants rfl rfl rfl rfl ?_
    refine W.call Try.call36 rfl (num_ok _ _) rfl ?_
    rintro v52 w52 ⟨rfl, rfl⟩
    refine W.wants rfl rfl rfl rfl ?_
    refine W.move rfl rfl ?_
    refine W.wants rfl rfl rfl rfl ?_
    refine W.neqI rfl rfl rfl ?_
    refine W.eqv (bF (by omega)) ?_
    refine W.pickF rfl rfl rfl ?_
    refine W.move rfl rfl ?_
    refine W.wants rfl rfl rfl rfl ?_
    refine W.move rfl rfl ?_
    refine W.wants rfl rfl rfl rfl ?_
    refine W.call Try.call37 rfl (Sets.Sides_ok _ _ (by omega)) rfl ?_
    rintro v58 w58 ⟨rfl, rfl⟩
    refine W.wants rfl rfl rfl rfl ?_
    refine W.move rfl rfl ?_
    refine W.wants rfl rfl rfl rfl ?_
    refine W.call Try.call38 rfl (Sets.RSides_ok _ _ (by omega)) rfl ?_
    rintro v60 w60 ⟨rfl, rfl⟩
    refine W.wants rfl rfl rfl rfl ?_
    refine W.neqI rfl rfl rfl ?_
    refine W.eqv (bF (by omega)) ?_
    refine W.pickF rfl rfl rfl ?_
    refine W.nil ?_
    refine At.thenCode ?_
    refine C.condF rfl ?_
    refine C.skip ?_
    refine At.thenCode ?_
    refine C.seq ?_
    refine C.region ?_
    refine W.move rfl rfl ?_
    refine W.move rfl rfl ?_
    refine W.move rfl rfl ?_
    refine W.call Try.call39 rfl (Sets.Shared_ok _ _ _ _ (by omega) (by omega) (by omega)) rfl ?_
    rintro v67 w67 ⟨rfl, hX67⟩
    refine W.move rfl rfl ?_
    refine W.extract rfl rfl rfl ?_
    refine W.extract rfl rfl rfl ?_
    refine W.assign rfl rfl ?_
    refine W.assign rfl rfl ?_
    refine W.nil ?_
    refine At.thenCode ?_
    refine C.seq ?_
    refine C.region ?_
    refine W.move rfl rfl ?_
    refine W.move rfl rfl ?_
    refine W.move rfl rfl ?_
    refine W.call Try.call40 rfl (Sets.RShared_ok _ _ _ _ (by omega) (by omega) (by omega)) rfl ?_
    rintro v74 w74 ⟨rfl, hX74⟩
    refine W.move rfl rfl ?_
    refine W.extract rfl rfl rfl ?_
    refine W.extract rfl rfl rfl ?_
    refine W.assign rfl rfl ?_
    refine W.assign rfl rfl ?_
    refine W.nil ?_
    refine At.thenCode ?_
    refine C.seq ?_
    refine C.region ?_
    refine W.loadA rfl (Bk.cells (o := 0) ((((((hB7a.ext hX37).ext hX43).ext hX48).ext hX67).ext hX74))) Try.underlying23 rfl (by rw [List.drop_zero, List.length_map, hs]; kernel_rfl) rfl ?_
    rw [List.drop_zero]
    refine W.move rfl rfl ?_
    refine W.call Try.call41 rfl (Sets.Group_ok name n _ hs hn) rfl ?_
    rintro v80 w80 ⟨rfl, hX80⟩
    refine W.move rfl rfl ?_
    refine W.extract rfl rfl rfl ?_
    refine W.extract rfl rfl rfl ?_
    refine W.assign rfl rfl ?_
    refine W.assign rfl rfl ?_
    refine W.nil ?_
    refine At.thenCode ?_
    refine C.seq ?_
    refine C.region ?_
    refine W.loadA rfl (Bk.cells (o := 0) (((((((hB7a.ext hX37).ext hX43).ext hX48).ext hX67).ext hX74).ext hX80))) Try.underlying23 rfl (by rw [List.drop_zero, List.length_map, hs]; kernel_rfl) rfl ?_
    rw [List.drop_zero]
    refine W.move rfl rfl ?_
    refine W.call Try.call42 rfl (Sets.RGroup_ok name n _ hs hn) rfl ?_
    rintro v86 w86 ⟨rfl, hX86⟩
    refine W.move rfl rfl ?_
    refine W.extract rfl rfl rfl ?_
    refine W.extract rfl rfl rfl ?_
    refine W.assign rfl rfl ?_
    refine W.assign rfl rfl ?_
    refine W.nil ?_
    refine At.thenCode ?_
    refine C.seq ?_
    refine C.region ?_
    refine W.move rfl rfl ?_
    refine W.move rfl rfl ?_
    refine W.eqlI rfl rfl rfl ?_
    refine W.eqv (bT (rfl)) ?_
    refine W.move rfl rfl ?_
    refine W.wants rfl rfl rfl rfl ?_
    refine W.move rfl rfl ?_
    refine W.wants rfl rfl rfl rfl ?_
    refine W.call Try.call36 rfl (num_ok _ _) rfl ?_
    rintro v94 w94 ⟨rfl, rfl⟩
    refine W.wants rfl rfl rfl rfl ?_
    refine W.move rfl rfl ?_
    refine W.wants rfl rfl rfl rfl ?_
    refine W.eqlI rfl rfl rfl ?_
    refine W.eqv (bT (rfl)) ?_
    refine W.pickT rfl rfl rfl ?_
    refine W.move rfl rfl ?_
    refine W.wants rfl rfl rfl rfl ?_
    refine W.move rfl rfl ?_
    refine W.wants rfl rfl rfl rfl ?_
    refine W.move rfl rfl ?_
    refine W.wants rfl rfl rfl rfl ?_
    refine W.eqlI rfl rfl rfl ?_
    refine W.eqv (bT (rfl)) ?_
    refine W.pickT rfl rfl rfl ?_
    refine W.move rfl rfl ?_
    refine W.wants rfl rfl rfl rfl ?_
    refine W.move rfl rfl ?_
    refine W.wants rfl rfl rfl rfl ?_
    refine W.call Try.call36 rfl (num_ok _ _) rfl ?_
    rintro v105 w105 ⟨rfl, rfl⟩
    refine W.wants rfl rfl rfl rfl ?_
    refine W.move rfl rfl ?_
    refine W.wants rfl rfl rfl rfl ?_
    refine W.eqlI rfl rfl rfl ?_
    refine W.eqv (bT (rfl)) ?_
    refine W.pickT rfl rfl rfl ?_
    refine W.assign rfl rfl ?_
    refine W.nil ?_
    refine At.thenCode ?_
    refine C.ret ?_
    refine At.ret1 Try.results12 rfl ?_
    first
    | exact ⟨rfl, Ext.below (((((hX43a.ext hX48).ext hX67).ext hX74).ext hX80).ext hX86)⟩
    | exact ⟨rfl, Ext.below (hX7.ext hX22)⟩
end Go.Proofs.Ytomfnficblnngaa.Law15
