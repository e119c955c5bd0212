/- The walk of chapter 11's law of batches. -/
import Derived.Test.YtpjdkobmcjgcjaaLaw11f
import Derived.Test.YtpjdkobmcjgcjaaCodN3
namespace Go.Proofs.Ytpjdkobmcjgcjaa.Law11
open Go Go.RowKit Go.Proofs.Ytpjdkobmcjgcjaa.KW Go.Proofs.Ytpjdkobmcjgcjaa.Words Go.Proofs.Ytpjdkobmcjgcjaa.Grp Go.Proofs.Ytpjdkobmcjgcjaa.Cod
set_option linter.unusedVariables false
set_option linter.unusedSimpArgs false
set_option maxRecDepth 100000
theorem batB_length {x : BatD} (ho : BatOk x) (h : x.inner.length ≤ 30) (h' : x.lets.length ≤ 30) (g : ∀ p ∈ x.lets, p.2.length ≤ 300) : (batB x).length ≤ 20000 := by
  obtain ⟨_, _, _, hol⟩ := ho
  unfold batB
  split
  · have := encLets_le (l := x.lets) (m := 300) (fun p hp => ⟨g p hp, hol p hp⟩)
    have h2 : x.lets.length * (32 + 300) ≤ 30 * (32 + 300) := Nat.mul_le_mul_right _ h'
    simp only [List.length_append, be64_length, putsL_length]; omega
  · exact Nat.zero_le _
theorem BigBatch_ok (x : BatD) (vi vl : Value) (w : World) (hI : RNums (fun _ => False) w [vi] x.inner) (hL : RSl 33 RLet (fun _ => False) w [vl] x.lets) (hlenI : x.inner.length ≤ 9223372036854775807) (hlen : x.lets.length ≤ 9223372036854775807) :
    Ct Try.prog 30 #[.agg (batC x vi vl).toArray] w (fun v w' => ∃ b, v = .bool b ∧ (b = false → x.inner.length ≤ 30 ∧ x.lets.length ≤ 30 ∧ ∀ p ∈ x.lets, p.2.length ≤ 300) ∧ Ext w w') := by
  refine Ct.enter [(0, .agg (batC x vi vl).toArray)] Try.func30 rfl rfl rfl rfl ?_
  obtain ⟨ao, c, rfl, hE⟩ := hL.form
  obtain ⟨aI, cI, rfl, hU, _, hUl⟩ := hI.form
  refine C.seq ?_
  refine C.region ?_
  refine W.box (batC x (.slice aI x.inner.length cI) (.slice ao x.lets.length c)) rfl rfl rfl ?_
  intro g1 wb hg1 hXb hB1
  have hE1 := hE.ext rLet hXb
  refine W.assign rfl rfl ?_
  refine W.nil ?_
  refine At.thenCode ?_
  refine C.seq ?_
  refine C.seq ?_
  refine C.region ?_
  refine W.assign rfl rfl ?_
  refine W.nil ?_
  refine At.thenCode ?_
  refine C.block ?_
  refine C.loop (X := Nat) (fun x_ => [(1, .pointer (some ⟨g1, 0, none⟩)), (3, .int .i64 (x_ : Int))]) (fun x_ w1 => wb = w1 ∧ x_ ≤ x.lets.length ∧ ∀ p ∈ x.lets.take x_, p.2.length ≤ 300) (fun x_ => x.lets.length - x_) (0) (Sub.cons (rfl) (Sub.cons (rfl) (Sub.nil))) ?start1 ?_
  case start1 =>
    show wb = _ ∧ (0) ≤ x.lets.length ∧ ∀ p ∈ x.lets.take (0), p.2.length ≤ 300
    exact ⟨rfl, by omega, by simp⟩
  rintro i w1 hI_
  replace hI_ : wb = w1 ∧ i ≤ x.lets.length ∧ ∀ p ∈ x.lets.take i, p.2.length ≤ 300 := hI_
  obtain ⟨rfl, hi, hsm⟩ := hI_
  refine C.weaken (l' := [(1, .pointer (some ⟨g1, 0, none⟩)), (3, .int .i64 (i : Int))]) (Sub.cons (rfl) (Sub.cons (rfl) (Sub.nil))) ?_
  refine C.seq ?_
  refine C.seq ?_
  refine C.region ?_
  refine W.move rfl rfl ?_
  refine W.fieldB (off := 3) (size := 1) (t := 58) (Fld.of (by kernel_rfl)) rfl rfl rfl ?_
  refine W.loadB rfl Try.underlying58 rfl (by assumption) rfl rfl ?_
  refine W.lenS rfl Try.underlying58 rfl ?_
  refine W.lssI rfl rfl rfl ?_
  refine W.nil ?_
  refine At.thenCode ?_
  first | refine C.condD rfl (fun c8 => ?_) (fun c8 => ?_) | refine C.cond rfl (fun c8 => ?_) (fun c8 => ?_)
  · have hlt : i < x.lets.length := by omega
    refine C.skip ?_
    refine At.thenCode ?_
    refine C.seq ?_
    refine C.block ?_
    refine C.seq ?_
    refine C.region ?_
    refine W.fieldB (off := 3) (size := 1) (t := 58) (Fld.of (by kernel_rfl)) rfl rfl rfl ?_
    refine W.loadB rfl Try.underlying58 rfl (by assumption) rfl rfl ?_
    refine W.move rfl rfl ?_
    refine W.indexE ELet Try.underlying58 rfl hE1 rfl hlt rfl ?_
    rintro ad14 cs14 hc14 ⟨v14, rfl, hR14, hx14⟩ _
    obtain ⟨a14, c14, rfl, hs14, _⟩ := hR14.form
    refine W.fieldAddr (off := 32) (size := 1) (t := 27) (Fld.of (by kernel_rfl)) rfl rfl rfl ?_
    refine W.loadC (v := .slice a14 x.lets[i].2.length c14) hc14 (by rw [List.getElem?_append_right (by rw [List.length_map]; omega), List.length_map, hx14]; rfl) rfl Try.underlying27 rfl rfl ?_
    refine W.lenS rfl Try.underlying27 rfl ?_
    refine W.gtrI rfl rfl rfl ?_
    refine W.nil ?_
    refine At.thenCode ?_
    first | refine C.condD rfl (fun c18 => ?_) (fun c18 => ?_) | refine C.cond rfl (fun c18 => ?_) (fun c18 => ?_)
    · refine C.seq ?_
      refine C.region ?_
      refine W.assign rfl rfl ?_
      refine W.nil ?_
      refine At.thenCode ?_
      refine C.ret ?_
      refine At.blockRet ?_
      refine At.thenRet ?_
      refine At.thenRet ?_
      refine At.blockRet ?_
      refine At.thenRet ?_
      refine At.ret1 Try.results30 rfl ?_
      first
      | exact ⟨true, rfl, fun h => (by cases h), hXb⟩
      | exact ⟨_, rfl, fun h => (by have := of_decide_eq_false h; exact ⟨by omega, by omega, hsm⟩), hXb⟩
    · refine C.skip ?_
      refine At.blockNormal ?_
      refine At.thenCode ?_
      refine C.region ?_
      refine W.move rfl rfl ?_
      first | refine W.addI rfl rfl (by omega) rfl ?_ | refine W.addW rfl rfl rfl ?_
      refine W.assign rfl rfl ?_
      refine W.nil ?_
      refine At.thenRound (i + 1) (Sub.cons (rfl) (Sub.cons (look_eq rfl (iV (by omega))) (Sub.nil))) (show wb = _ ∧ (i + 1) ≤ x.lets.length ∧ ∀ p ∈ x.lets.take (i + 1), p.2.length ≤ 300 from ?_) (show x.lets.length - (i + 1) < x.lets.length - i from ?_)
      · refine ⟨rfl, by omega, ?_⟩
        intro p hp
        rw [List.take_succ_eq_append_getElem hlt] at hp
        rcases List.mem_append.1 hp with h | h
        · exact hsm p h
        · obtain rfl := List.mem_singleton.1 h
          omega
      · omega
  · obtain rfl : i = x.lets.length := by omega
    rw [List.take_length] at hsm
    refine C.exit ?_
    refine At.thenExit ?_
    refine At.thenExit ?_
    refine At.blockSelf ?_
    refine At.thenCode ?_
    refine C.seq ?_
    refine C.region ?_
    refine W.fieldB (off := 3) (size := 1) (t := 58) (Fld.of (by kernel_rfl)) rfl rfl rfl ?_
    refine W.loadB rfl Try.underlying58 rfl (by assumption) rfl rfl ?_
    refine W.lenS rfl Try.underlying58 rfl ?_
    refine W.gtrI rfl rfl rfl ?_
    refine W.move rfl rfl ?_
    first | refine W.splitD (fun g23 => ?_) (fun g23 => ?_) | refine W.splitB (fun g23 => ?_) (fun g23 => ?_)
    · refine W.skips rfl rfl rfl rfl rfl rfl ?_
      refine W.skips rfl rfl rfl rfl rfl rfl ?_
      refine W.skips rfl rfl rfl rfl rfl rfl ?_
      refine W.skips rfl rfl rfl rfl rfl rfl ?_
      refine W.pickT rfl rfl rfl ?_
      refine W.assign rfl rfl ?_
      refine W.nil ?_
      refine At.thenCode ?_
      refine C.ret ?_
      refine At.ret1 Try.results30 rfl ?_
      first
      | exact ⟨true, rfl, fun h => (by cases h), hXb⟩
      | exact ⟨_, rfl, fun h => (by have := of_decide_eq_false h; exact ⟨by omega, by omega, hsm⟩), hXb⟩
    · refine W.wants rfl rfl rfl rfl ?_
      refine W.fieldB (off := 2) (size := 1) (t := 57) (Fld.of (by kernel_rfl)) rfl rfl rfl ?_
      refine W.wants rfl rfl rfl rfl ?_
      refine W.loadB rfl Try.underlying57 rfl (by assumption) rfl rfl ?_
      refine W.wants rfl rfl rfl rfl ?_
      refine W.lenS rfl Try.underlying57 rfl ?_
      refine W.wants rfl rfl rfl rfl ?_
      refine W.gtrI rfl rfl rfl ?_
      refine W.pickF rfl rfl rfl ?_
      refine W.assign rfl rfl ?_
      refine W.nil ?_
      refine At.thenCode ?_
      refine C.ret ?_
      refine At.ret1 Try.results30 rfl ?_
      first
      | exact ⟨true, rfl, fun h => (by cases h), hXb⟩
      | exact ⟨_, rfl, fun h => (by have := of_decide_eq_false h; exact ⟨by omega, by omega, hsm⟩), hXb⟩
theorem CodecBatches_walk (x : BatD) (vi vl : Value) (w : World) (hI : RNums (fun _ => False) w [vi] x.inner) (hL : RSl 33 RLet (fun _ => False) w [vl] x.lets) (ho : BatOk x) (hi : x.inner.length ≤ 9223372036854775807) (hl : x.lets.length ≤ 9223372036854775807) (hb : ∀ p ∈ x.lets, p.2.length ≤ 9223372036854775807) :
    Ct Try.prog 7 #[.agg (batC x vi vl).toArray] w (LawOk w) := by
  refine Ct.enter [(0, .agg (batC x vi vl).toArray)] Try.func7 rfl rfl rfl rfl ?_
  obtain ⟨er, her⟩ : ∃ er, er = batE x := ⟨_, rfl⟩
  have hrd := bat_read x
  obtain ⟨ao, c, hvl, _⟩ := hL.form
  obtain ⟨aI, cI, hvi, _, _, _⟩ := hI.form
  refine C.seq ?_
  refine C.region ?_
  refine W.box (batC x vi vl) rfl rfl rfl ?_
  intro g1 wb hg1 hXb hB1
  refine W.assign rfl rfl ?_
  refine W.nil ?_
  refine At.thenCode ?_
  refine C.seq ?_
  refine C.region ?_
  refine W.call Try.call10 rfl (Law11.alive_ok _) rfl ?_
  rintro v11 w11 ⟨rfl, hX11⟩
  have hXa := hXb.ext hX11
  have hBa := hB1.ext hX11
  have hIa := RdOk.ext rNums hI hXa
  have hLa := RdOk.ext (rSl 33 rLet) hL hXa
  refine W.assign rfl rfl ?_
  refine W.nil ?_
  refine At.thenCode ?_
  refine C.seq ?_
  refine C.region ?_
  refine W.loadA rfl (hBa.cells (o := 0)) Try.underlying60 rfl (by kernel_rfl) rfl ?_
  rw [List.drop_zero]
  refine W.call Try.call30 rfl (Law11.BigBatch_ok x vi vl _ hIa hLa hi hl) rfl ?_
  rintro v13 w13 ⟨big, rfl, hbig, hX13⟩
  have hXc := hXa.ext hX13
  have hBc := hBa.ext hX13
  have hIc := RdOk.ext rNums hIa hX13
  have hLc := RdOk.ext (rSl 33 rLet) hLa hX13
  refine W.assign rfl rfl ?_
  refine W.nil ?_
  refine At.thenCode ?_
  refine C.seq ?_
  refine C.seq ?_
  refine C.region ?_
  refine W.move rfl rfl ?_
  first | refine W.notD rfl rfl ?_ | refine W.notB rfl rfl ?_
  refine W.move rfl rfl ?_
  refine W.wants rfl rfl rfl rfl ?_
  refine W.move rfl rfl ?_
  refine W.pickF rfl rfl rfl ?_
  refine W.nil ?_
  refine At.thenCode ?_
  first | refine C.condD rfl (fun c18 => ?_) (fun c18 => ?_) | refine C.cond rfl (fun c18 => ?_) (fun c18 => ?_)
  · refine C.seq ?_
    refine C.region ?_
    refine W.move rfl rfl ?_
    refine W.assign rfl rfl ?_
    refine W.nil ?_
    refine At.thenCode ?_
    refine C.ret ?_
    refine At.thenRet ?_
    refine At.ret1 Try.results7 rfl ?_
    first
    | exact ⟨rfl, Ext.below (hXg.ext hX55)⟩
    | exact ⟨rfl, Ext.below hXg⟩
    | exact ⟨rfl, Ext.below hXc⟩
  · obtain ⟨hs30, hs31, hs300⟩ := hbig (by simpa using c18)
    have hBl := batB_length ho hs30 hs31 hs300
    refine C.skip ?_
    refine At.thenCode ?_
    refine C.seq ?_
    refine C.region ?_
    refine W.loadA rfl (hBc.cells (o := 0)) Try.underlying60 rfl (by kernel_rfl) rfl ?_
    rw [List.drop_zero]
    refine W.call Try.call31 rfl (Cod.Batch_ok x vi vl _ hIc hLc ho hi hl hb) rfl ?_
    rintro v22 w22 ⟨ao22, c22, rfl, hN22, hX22⟩
    have hXd := hXc.ext hX22
    have hBd := hBc.ext hX22
    have hId := RdOk.ext rNums hIc hX22
    have hLd := RdOk.ext (rSl 33 rLet) hLc hX22
    refine W.move rfl rfl ?_
    refine W.extract rfl rfl rfl ?_
    refine W.extract rfl rfl rfl ?_
    refine W.assign rfl rfl ?_
    refine W.assign rfl rfl ?_
    refine W.nil ?_
    refine At.thenCode ?_
    refine C.seq ?_
    refine C.region ?_
    refine W.loadA rfl (hBd.cells (o := 0)) Try.underlying60 rfl (by kernel_rfl) rfl ?_
    rw [List.drop_zero]
    refine W.call Try.call32 rfl (Cod.RBatch_ok x vi vl _ hId hLd ho hi hl hb) rfl ?_
    rintro v27 w27 ⟨ao27, c27, rfl, hN27, hX27⟩
    have hXe := hXd.ext hX27
    have hBe := hBd.ext hX27
    have hIe := RdOk.ext rNums hId hX27
    have hLe := RdOk.ext (rSl 33 rLet) hLd hX27
    have hs22 := hN22.1.ext hX27
    have hs27 := hN27.1
    refine W.move rfl rfl ?_
    refine W.extract rfl rfl rfl ?_
    refine W.extract rfl rfl rfl ?_
    refine W.assign rfl rfl ?_
    refine W.assign rfl rfl ?_
    refine W.nil ?_
    refine At.thenCode ?_
    refine C.seq ?_
    refine C.seq ?_
    refine C.region ?_
    refine W.move rfl rfl ?_
    refine W.bytesStr Try.underlying27 Try.underlying5 Try.underlying9 rfl hs22 rfl ?_
    refine W.move rfl rfl ?_
    refine W.bytesStr Try.underlying27 Try.underlying5 Try.underlying9 rfl hs27 rfl ?_
    refine W.neqStr rfl rfl rfl ?_
    refine W.eqv (bF (fun h => h rfl)) ?_
    refine W.move rfl rfl ?_
    refine W.wants rfl rfl rfl rfl ?_
    refine W.move rfl rfl ?_
    refine W.wants rfl rfl rfl rfl ?_
    refine W.call Try.call14 rfl (Law11.num_ok _ _) rfl ?_
    rintro v37 w37 ⟨rfl, rfl⟩
    refine W.wants rfl rfl rfl rfl ?_
    refine W.move rfl rfl ?_
    refine W.wants rfl rfl rfl rfl ?_
    refine W.neqI rfl rfl rfl ?_
    refine W.eqv (bF (fun h => h rfl)) ?_
    refine W.pickF rfl rfl rfl ?_
    refine W.nil ?_
    refine At.thenCode ?_
    refine C.condF rfl ?_
    refine C.skip ?_
    refine At.thenCode ?_
    refine C.seq ?_
    refine C.region ?_
    refine W.move rfl rfl ?_
    refine W.call Try.call23 rfl (Cod.ReadBatch_ok ao27 c27 (batB x) _ hs27 (by omega)) rfl ?_
    rintro v43 w43 ⟨vi43, vl43, rfl, hI43, hL43, hX43⟩
    have hvi43 := rNums.one hI43 vi43 (by simp)
    have hvl43 := (rSl 33 rLet).one hL43 vl43 (by simp)
    have hXf := hXe.ext hX43
    have hBf := hBe.ext hX43
    have hIf := RdOk.ext rNums hIe hX43
    have hLf := RdOk.ext (rSl 33 rLet) hLe hX43
    obtain ⟨xr, hxr⟩ : ∃ xr, xr = batR (batB x) := ⟨_, rfl⟩
    rw [← hxr] at hI43 hL43 hrd ⊢
    refine W.move rfl rfl ?_
    refine W.extract rfl rfl rfl ?_
    refine W.extract rfl rfl rfl ?_
    refine W.alloc (z := .agg zeroBatC.toArray) zeroBatC (by kernel_rfl) rfl rfl ?_
    intro g9 w9 hg9 hX9 hB9
    refine W.storeA (batC xr vi43 vl43) rfl rfl hB9 rfl (by kernel_rfl) (batC_one _ hvi43 hvl43) ?_
    intro w44 hc44 hB44
    have hX44 : Ext w43 w44 := hX9.news hc44 fun k hk => Or.inr (by omega)
    have hXg := hXf.ext hX44
    have hBg := hBf.ext hX44
    have hIg : RNums NoA w44 [vi] x.inner := RdOk.ext rNums hIf hX44
    have hLg : RSl 33 RLet NoA w44 [vl] x.lets := RdOk.ext (rSl 33 rLet) hLf hX44
    have hI44 : RNums NoA w44 [vi43] xr.inner := rNums.new (RdOk.ext rNums hI43 hX44) fun k h _ => h.elim
    have hL44 : RSl 33 RLet NoA w44 [vl43] xr.lets := (rSl 33 rLet).new (RdOk.ext (rSl 33 rLet) hL43 hX44) fun k h _ => h.elim
    refine W.assign rfl rfl ?_
    refine W.nil ?_
    refine At.thenCode ?_
    refine C.seq ?_
    refine C.region ?_
    refine W.move rfl rfl ?_
    refine W.neqI rfl rfl rfl ?_
    refine W.move rfl rfl ?_
    first | refine W.splitD (fun g48 => ?_) (fun g48 => ?_) | refine W.splitB (fun g48 => ?_) (fun g48 => ?_)
    · refine W.skips rfl rfl rfl rfl rfl rfl ?_
      refine W.skips rfl rfl rfl rfl rfl rfl ?_
      refine W.skips rfl rfl rfl rfl rfl rfl ?_
      refine W.skips rfl rfl rfl rfl rfl rfl ?_
      refine W.skipsU rfl rfl rfl rfl rfl rfl ?_
      refine W.skipsU rfl rfl rfl rfl rfl rfl ?_
      refine W.skipsU rfl rfl rfl rfl rfl rfl ?_
      refine W.skips rfl rfl rfl rfl rfl rfl ?_
      refine W.pickT rfl rfl rfl ?_
      refine W.assign rfl rfl ?_
      refine W.nil ?_
      refine At.thenCode ?_
      refine C.ret ?_
      refine At.ret1 Try.results7 rfl ?_
      first
      | exact ⟨rfl, Ext.below (hXg.ext hX55)⟩
      | exact ⟨rfl, Ext.below hXg⟩
      | exact ⟨rfl, Ext.below hXc⟩
    · refine W.wants rfl rfl rfl rfl ?_
      refine W.move rfl rfl ?_
      refine W.wants rfl rfl rfl rfl ?_
      refine W.call Try.call14 rfl (Law11.num_ok _ _) rfl ?_
      rintro v50 w50 ⟨rfl, rfl⟩
      obtain ⟨hr0, hr1⟩ := hrd (by omega) ho
      rw [hr1] at hB44 hI44 hL44
      refine W.wants rfl rfl rfl rfl ?_
      refine W.eqlI rfl rfl rfl ?_
      refine W.eqv (bT (by omega)) ?_
      refine W.wants rfl rfl rfl rfl ?_
      refine W.move rfl rfl ?_
      refine W.wants rfl rfl rfl rfl ?_
      refine W.loadA rfl (hB44.cells (o := 0)) Try.underlying60 rfl (by kernel_rfl) rfl ?_
      rw [List.drop_zero]
      refine W.wants rfl rfl rfl rfl ?_
      refine W.loadA rfl (hBg.cells (o := 0)) Try.underlying60 rfl (by kernel_rfl) rfl ?_
      rw [List.drop_zero]
      refine W.wants rfl rfl rfl rfl ?_
      refine W.call Try.call26 rfl (Cod.SameBatch_ok x vi43 vl43 vi vl _ hI44 hL44 hIg hLg (by omega) (by omega)) rfl ?_
      rintro v55 w55 ⟨rfl, hX55⟩
      refine W.wants rfl rfl rfl rfl ?_
      refine W.pickT rfl rfl rfl ?_
      refine W.pickF rfl rfl rfl ?_
      refine W.assign rfl rfl ?_
      refine W.nil ?_
      refine At.thenCode ?_
      refine C.ret ?_
      refine At.ret1 Try.results7 rfl ?_
      first
      | exact ⟨rfl, Ext.below (hXg.ext hX55)⟩
      | exact ⟨rfl, Ext.below hXg⟩
      | exact ⟨rfl, Ext.below hXc⟩
end Go.Proofs.Ytpjdkobmcjgcjaa.Law11
