/- Chapter 11's example of a batch that is too big for a law. -/
import Derived.Test.YthiijdbiikljpaaCodN3
namespace Go.Proofs.Ythiijdbiikljpaa.Law11
open Go Go.RowKit Go.Proofs.Ythiijdbiikljpaa.KW Go.Proofs.Ythiijdbiikljpaa.Words Go.Proofs.Ythiijdbiikljpaa.Cod
set_option linter.unusedVariables false
set_option linter.unusedSimpArgs false
set_option maxRecDepth 100000
theorem BigBatch_ok (x : BatD) (vi vl : Value) (w : World) (hI : RNums (fun _ => False) w [vi] x.inner) (hL : RSl 33 RLet (fun _ => False) w [vl] x.lets) (hlenI : x.inner.length ≤ 9223372036854775807) (hlen : x.lets.length ≤ 9223372036854775807) :
    Ct Try.prog 21 #[.agg (batC x vi vl).toArray] w (fun v w' => ∃ b, v = .bool b ∧ (b = false → x.inner.length ≤ 30 ∧ x.lets.length ≤ 30 ∧ ∀ p ∈ x.lets, p.2.length ≤ 300) ∧ Ext w w') := by
  refine Ct.enter [(0, .agg (batC x vi vl).toArray)] Try.func21 rfl rfl rfl rfl ?_
  obtain ⟨ao, c, rfl, hE⟩ := hL.form
  obtain ⟨aI, cI, rfl, hU, _, hUl⟩ := hI.form
  refine C.seq ?_
  refine C.region ?_
  refine W.box (batC x (.slice aI x.inner.length cI) (.slice ao x.lets.length c)) rfl rfl rfl ?_
  intro g1 wb hg1 hXb hB1
  have hE1 := hE.ext rLet hXb
  refine W.assign rfl rfl ?_
  refine W.nil ?_
  refine At.thenCode ?_
  refine C.seq ?_
  refine C.seq ?_
  refine C.region ?_
  refine W.assign rfl rfl ?_
  refine W.nil ?_
  refine At.thenCode ?_
  refine C.block ?_
  refine C.loop (X := Nat) (fun x_ => [(1, .pointer (some ⟨g1, 0, none⟩)), (3, .int .i64 (x_ : Int))]) (fun x_ w1 => wb = w1 ∧ x_ ≤ x.lets.length ∧ ∀ p ∈ x.lets.take x_, p.2.length ≤ 300) (fun x_ => x.lets.length - x_) (0) (Sub.cons (rfl) (Sub.cons (rfl) (Sub.nil))) ?start1 ?_
  case start1 =>
    show wb = _ ∧ (0) ≤ x.lets.length ∧ ∀ p ∈ x.lets.take (0), p.2.length ≤ 300
    exact ⟨rfl, by omega, by simp⟩
  rintro i w1 hI_
  replace hI_ : wb = w1 ∧ i ≤ x.lets.length ∧ ∀ p ∈ x.lets.take i, p.2.length ≤ 300 := hI_
  obtain ⟨rfl, hi, hsm⟩ := hI_
  refine C.weaken (l' := [(1, .pointer (some ⟨g1, 0, none⟩)), (3, .int .i64 (i : Int))]) (Sub.cons (rfl) (Sub.cons (rfl) (Sub.nil))) ?_
  refine C.seq ?_
  refine C.seq ?_
  refine C.region ?_
  refine W.move rfl rfl ?_
  refine W.fieldB (off := 3) (size := 1) (t := 31) (Fld.of (by kernel_rfl)) rfl rfl rfl ?_
  refine W.loadB rfl Try.underlying31 rfl (by assumption) rfl rfl ?_
  refine W.lenS rfl Try.underlying31 rfl ?_
  refine W.lssI rfl rfl rfl ?_
  refine W.nil ?_
  refine At.thenCode ?_
  first | refine C.condD rfl (fun c8 => ?_) (fun c8 => ?_) | refine C.cond rfl (fun c8 => ?_) (fun c8 => ?_)
  · have hlt : i < x.lets.length := by omega
    refine C.skip ?_
    refine At.thenCode ?_
    refine C.seq ?_
    refine C.block ?_
    refine C.seq ?_
    refine C.region ?_
    refine W.fieldB (off := 3) (size := 1) (t := 31) (Fld.of (by kernel_rfl)) rfl rfl rfl ?_
    refine W.loadB rfl Try.underlying31 rfl (by assumption) rfl rfl ?_
    refine W.move rfl rfl ?_
    refine W.indexE ELet Try.underlying31 rfl hE1 rfl hlt rfl ?_
    rintro ad14 cs14 hc14 ⟨v14, rfl, hR14, hx14⟩ _
    obtain ⟨a14, c14, rfl, hs14, _⟩ := hR14.form
    refine W.fieldAddr (off := 32) (size := 1) (t := 51) (Fld.of (by kernel_rfl)) rfl rfl rfl ?_
    refine W.loadC (v := .slice a14 x.lets[i].2.length c14) hc14 (by rw [List.getElem?_append_right (by rw [List.length_map]; omega), List.length_map, hx14]; rfl) rfl Try.underlying51 rfl rfl ?_
    refine W.lenS rfl Try.underlying51 rfl ?_
    refine W.gtrI rfl rfl rfl ?_
    refine W.nil ?_
    refine At.thenCode ?_
    first | refine C.condD rfl (fun c18 => ?_) (fun c18 => ?_) | refine C.cond rfl (fun c18 => ?_) (fun c18 => ?_)
    · refine C.seq ?_
      refine C.region ?_
      refine W.assign rfl rfl ?_
      refine W.nil ?_
      refine At.thenCode ?_
      refine C.ret ?_
      refine At.blockRet ?_
      refine At.thenRet ?_
      refine At.thenRet ?_
      refine At.blockRet ?_
      refine At.thenRet ?_
      refine At.ret1 Try.results21 rfl ?_
      first
      | exact ⟨true, rfl, fun h => (by cases h), hXb⟩
      | exact ⟨_, rfl, fun h => (by have := of_decide_eq_false h; exact ⟨by omega, by omega, hsm⟩), hXb⟩
    · refine C.skip ?_
      refine At.blockNormal ?_
      refine At.thenCode ?_
      refine C.region ?_
      refine W.move rfl rfl ?_
      first | refine W.addI rfl rfl (by omega) rfl ?_ | refine W.addW rfl rfl rfl ?_
      refine W.assign rfl rfl ?_
      refine W.nil ?_
      refine At.thenRound (i + 1) (Sub.cons (rfl) (Sub.cons (look_eq rfl (iV (by omega))) (Sub.nil))) (show wb = _ ∧ (i + 1) ≤ x.lets.length ∧ ∀ p ∈ x.lets.take (i + 1), p.2.length ≤ 300 from ?_) (show x.lets.length - (i + 1) < x.lets.length - i from ?_)
      · refine ⟨rfl, by omega, ?_⟩
        intro p hp
        rw [List.take_succ_eq_append_getElem hlt] at hp
        rcases List.mem_append.1 hp with h | h
        · exact hsm p h
        · obtain rfl := List.mem_singleton.1 h
          omega
      · omega
  · obtain rfl : i = x.lets.length := by omega
    rw [List.take_length] at hsm
    refine C.exit ?_
    refine At.thenExit ?_
    refine At.thenExit ?_
    refine At.blockSelf ?_
    refine At.thenCode ?_
    refine C.seq ?_
    refine C.region ?_
    refine W.fieldB (off := 3) (size := 1) (t := 31) (Fld.of (by kernel_rfl)) rfl rfl rfl ?_
    refine W.loadB rfl Try.underlying31 rfl (by assumption) rfl rfl ?_
    refine W.lenS rfl Try.underlying31 rfl ?_
    refine W.gtrI rfl rfl rfl ?_
    refine W.move rfl rfl ?_
    first | refine W.splitD (fun g23 => ?_) (fun g23 => ?_) | refine W.splitB (fun g23 => ?_) (fun g23 => ?_)
    · refine W.skips rfl rfl rfl rfl rfl rfl ?_
      refine W.skips rfl rfl rfl rfl rfl rfl ?_
      refine W.skips rfl rfl rfl rfl rfl rfl ?_
      refine W.skips rfl rfl rfl rfl rfl rfl ?_
      refine W.pickT rfl rfl rfl ?_
      refine W.assign rfl rfl ?_
      refine W.nil ?_
      refine At.thenCode ?_
      refine C.ret ?_
      refine At.ret1 Try.results21 rfl ?_
      first
      | exact ⟨true, rfl, fun h => (by cases h), hXb⟩
      | exact ⟨_, rfl, fun h => (by have := of_decide_eq_false h; exact ⟨by omega, by omega, hsm⟩), hXb⟩
    · refine W.wants rfl rfl rfl rfl ?_
      refine W.fieldB (off := 2) (size := 1) (t := 30) (Fld.of (by kernel_rfl)) rfl rfl rfl ?_
      refine W.wants rfl rfl rfl rfl ?_
      refine W.loadB rfl Try.underlying30 rfl (by assumption) rfl rfl ?_
      refine W.wants rfl rfl rfl rfl ?_
      refine W.lenS rfl Try.underlying30 rfl ?_
      refine W.wants rfl rfl rfl rfl ?_
      refine W.gtrI rfl rfl rfl ?_
      refine W.pickF rfl rfl rfl ?_
      refine W.assign rfl rfl ?_
      refine W.nil ?_
      refine At.thenCode ?_
      refine C.ret ?_
      refine At.ret1 Try.results21 rfl ?_
      first
      | exact ⟨true, rfl, fun h => (by cases h), hXb⟩
      | exact ⟨_, rfl, fun h => (by have := of_decide_eq_false h; exact ⟨by omega, by omega, hsm⟩), hXb⟩
end Go.Proofs.Ythiijdbiikljpaa.Law11
