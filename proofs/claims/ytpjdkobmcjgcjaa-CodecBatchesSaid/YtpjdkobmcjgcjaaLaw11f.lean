/- The walk of chapter 11's law of entries. -/
import Derived.Test.YtpjdkobmcjgcjaaLaw11e
import Derived.Test.YtpjdkobmcjgcjaaCodN2
namespace Go.Proofs.Ytpjdkobmcjgcjaa.Law11
open Go Go.RowKit Go.Proofs.Ytpjdkobmcjgcjaa.KW Go.Proofs.Ytpjdkobmcjgcjaa.Words Go.Proofs.Ytpjdkobmcjgcjaa.Grp Go.Proofs.Ytpjdkobmcjgcjaa.Cod
set_option linter.unusedVariables false
set_option linter.unusedSimpArgs false
set_option maxRecDepth 100000
theorem entsB_length {es : List Ent} (h : es.length ≤ 30) (g : ∀ p ∈ es, p.2.length ≤ 300) : (entsB es).length ≤ 10000 := by
  unfold entsB
  split
  · have := encEnts_le g
    have h2 : es.length * (8 + 300) ≤ 30 * (8 + 300) := Nat.mul_le_mul_right _ h
    simp only [List.length_append, be64_length]; omega
  · exact Nat.zero_le _
theorem BigEntries_ok (ao : Option Addr) (c : Nat) (es : List Ent) (w : World) (hE : Els (fun _ => False) w 2 REnt ao c es) (hlen : es.length ≤ 9223372036854775807) :
    Ct Try.prog 27 #[.slice ao es.length c] w (fun v w' => ∃ b, v = .bool b ∧ (b = false → es.length ≤ 30 ∧ ∀ p ∈ es, p.2.length ≤ 300) ∧ w = w') := by
  refine Ct.enter [(0, .slice ao es.length c)] Try.func27 rfl rfl rfl rfl ?_
  refine C.seq ?_
  refine C.region ?_
  refine W.assign rfl rfl ?_
  refine W.nil ?_
  refine At.thenCode ?_
  refine C.seq ?_
  refine C.seq ?_
  refine C.region ?_
  refine W.assign rfl rfl ?_
  refine W.nil ?_
  refine At.thenCode ?_
  refine C.block ?_
  refine C.loop (X := Nat) (fun x_ => [(0, .slice ao es.length c), (3, .int .i64 (x_ : Int))]) (fun x_ w1 => w = w1 ∧ x_ ≤ es.length ∧ ∀ p ∈ es.take x_, p.2.length ≤ 300) (fun x_ => es.length - x_) (0) (Sub.cons (rfl) (Sub.cons (rfl) (Sub.nil))) ?start1 ?_
  case start1 =>
    show w = _ ∧ (0) ≤ es.length ∧ ∀ p ∈ es.take (0), p.2.length ≤ 300
    exact ⟨rfl, by omega, by simp⟩
  rintro i w1 hI_
  replace hI_ : w = w1 ∧ i ≤ es.length ∧ ∀ p ∈ es.take i, p.2.length ≤ 300 := hI_
  obtain ⟨rfl, hi, hsm⟩ := hI_
  refine C.weaken (l' := [(0, .slice ao es.length c), (3, .int .i64 (i : Int))]) (Sub.cons (rfl) (Sub.cons (rfl) (Sub.nil))) ?_
  refine C.seq ?_
  refine C.seq ?_
  refine C.region ?_
  refine W.move rfl rfl ?_
  refine W.move rfl rfl ?_
  refine W.lenS rfl Try.underlying49 rfl ?_
  refine W.lssI rfl rfl rfl ?_
  refine W.nil ?_
  refine At.thenCode ?_
  first | refine C.condD rfl (fun c7 => ?_) (fun c7 => ?_) | refine C.cond rfl (fun c7 => ?_) (fun c7 => ?_)
  · have hlt : i < es.length := by omega
    refine C.skip ?_
    refine At.thenCode ?_
    refine C.seq ?_
    refine C.block ?_
    refine C.seq ?_
    refine C.region ?_
    refine W.move rfl rfl ?_
    refine W.move rfl rfl ?_
    refine W.indexE EEnt Try.underlying49 rfl hE rfl hlt rfl ?_
    rintro ad12 cs12 hc12 ⟨v12, rfl, hR12, hx12⟩ _
    obtain ⟨a12, c12, rfl, hs12, _⟩ := hR12.form
    refine W.fieldAddr (off := 1) (size := 1) (t := 27) (Fld.of (by kernel_rfl)) rfl rfl rfl ?_
    refine W.loadC hc12 rfl rfl Try.underlying27 rfl rfl ?_
    refine W.lenS rfl Try.underlying27 rfl ?_
    refine W.gtrI rfl rfl rfl ?_
    refine W.nil ?_
    refine At.thenCode ?_
    first | refine C.condD rfl (fun c16 => ?_) (fun c16 => ?_) | refine C.cond rfl (fun c16 => ?_) (fun c16 => ?_)
    · refine C.seq ?_
      refine C.region ?_
      refine W.assign rfl rfl ?_
      refine W.nil ?_
      refine At.thenCode ?_
      refine C.ret ?_
      refine At.blockRet ?_
      refine At.thenRet ?_
      refine At.thenRet ?_
      refine At.blockRet ?_
      refine At.thenRet ?_
      refine At.ret1 Try.results27 rfl ?_
      first
      | exact ⟨true, rfl, fun h => (by cases h), rfl⟩
      | exact ⟨_, rfl, fun h => ⟨by have := of_decide_eq_false h; omega, hsm⟩, rfl⟩
    · refine C.skip ?_
      refine At.blockNormal ?_
      refine At.thenCode ?_
      refine C.region ?_
      refine W.move rfl rfl ?_
      first | refine W.addI rfl rfl (by omega) rfl ?_ | refine W.addW rfl rfl rfl ?_
      refine W.assign rfl rfl ?_
      refine W.nil ?_
      refine At.thenRound (i + 1) (Sub.cons (rfl) (Sub.cons (look_eq rfl (iV (by omega))) (Sub.nil))) (show w = _ ∧ (i + 1) ≤ es.length ∧ ∀ p ∈ es.take (i + 1), p.2.length ≤ 300 from ?_) (show es.length - (i + 1) < es.length - i from ?_)
      · refine ⟨rfl, by omega, ?_⟩
        intro p hp
        rw [List.take_succ_eq_append_getElem hlt] at hp
        rcases List.mem_append.1 hp with h | h
        · exact hsm p h
        · obtain rfl := List.mem_singleton.1 h
          omega
      · omega
  · obtain rfl : i = es.length := by omega
    rw [List.take_length] at hsm
    refine C.exit ?_
    refine At.thenExit ?_
    refine At.thenExit ?_
    refine At.blockSelf ?_
    refine At.thenCode ?_
    refine C.seq ?_
    refine C.region ?_
    refine W.move rfl rfl ?_
    refine W.lenS rfl Try.underlying49 rfl ?_
    refine W.gtrI rfl rfl rfl ?_
    refine W.assign rfl rfl ?_
    refine W.nil ?_
    refine At.thenCode ?_
    refine C.ret ?_
    refine At.ret1 Try.results27 rfl ?_
    first
    | exact ⟨true, rfl, fun h => (by cases h), rfl⟩
    | exact ⟨_, rfl, fun h => ⟨by have := of_decide_eq_false h; omega, hsm⟩, rfl⟩
theorem CodecEntries_walk (ao : Option Addr) (c : Nat) (es : List Ent) (w : World) (hE : Els (fun _ => False) w 2 REnt ao c es) (hl : es.length ≤ 9223372036854775807) (hb : ∀ p ∈ es, p.2.length ≤ 9223372036854775807) :
    Ct Try.prog 6 #[.slice ao es.length c] w (LawOk w) := by
  refine Ct.enter [(0, .slice ao es.length c)] Try.func6 rfl rfl rfl rfl ?_
  obtain ⟨er, her⟩ : ∃ er, er = entsE es := ⟨_, rfl⟩
  have hrd := ents_read es
  refine C.seq ?_
  refine C.region ?_
  refine W.assign rfl rfl ?_
  refine W.nil ?_
  refine At.thenCode ?_
  refine C.seq ?_
  refine C.region ?_
  refine W.call Try.call10 rfl (Law11.alive_ok _) rfl ?_
  rintro v11 w11 ⟨rfl, hX11⟩
  have hEa := hE.ext rEnt hX11
  refine W.assign rfl rfl ?_
  refine W.nil ?_
  refine At.thenCode ?_
  refine C.seq ?_
  refine C.region ?_
  refine W.move rfl rfl ?_
  refine W.call Try.call27 rfl (Law11.BigEntries_ok ao c es _ hEa hl) rfl ?_
  rintro v13 w13 ⟨big, rfl, hbig, rfl⟩
  refine W.assign rfl rfl ?_
  refine W.nil ?_
  refine At.thenCode ?_
  refine C.seq ?_
  refine C.seq ?_
  refine C.region ?_
  refine W.move rfl rfl ?_
  first | refine W.notD rfl rfl ?_ | refine W.notB rfl rfl ?_
  refine W.move rfl rfl ?_
  refine W.wants rfl rfl rfl rfl ?_
  refine W.move rfl rfl ?_
  refine W.pickF rfl rfl rfl ?_
  refine W.nil ?_
  refine At.thenCode ?_
  first | refine C.condD rfl (fun c18 => ?_) (fun c18 => ?_) | refine C.cond rfl (fun c18 => ?_) (fun c18 => ?_)
  · refine C.seq ?_
    refine C.region ?_
    refine W.move rfl rfl ?_
    refine W.assign rfl rfl ?_
    refine W.nil ?_
    refine At.thenCode ?_
    refine C.ret ?_
    refine At.thenRet ?_
    refine At.ret1 Try.results6 rfl ?_
    first
    | exact ⟨rfl, Ext.below (hXd.ext hX55)⟩
    | exact ⟨rfl, Ext.below hXd⟩
    | exact ⟨rfl, Ext.below hX11⟩
  · obtain ⟨hs30, hs300⟩ := hbig (by simpa using c18)
    have hBl := entsB_length hs30 hs300
    refine C.skip ?_
    refine At.thenCode ?_
    refine C.seq ?_
    refine C.region ?_
    refine W.move rfl rfl ?_
    refine W.call Try.call28 rfl (Cod.Entries_ok ao c es _ hEa hl hb) rfl ?_
    rintro v22 w22 ⟨ao22, c22, rfl, hN22, hX22⟩
    have hEb := hEa.ext rEnt hX22
    have hXb := hX11.ext hX22
    refine W.move rfl rfl ?_
    refine W.extract rfl rfl rfl ?_
    refine W.extract rfl rfl rfl ?_
    refine W.assign rfl rfl ?_
    refine W.assign rfl rfl ?_
    refine W.nil ?_
    refine At.thenCode ?_
    refine C.seq ?_
    refine C.region ?_
    refine W.move rfl rfl ?_
    refine W.call Try.call29 rfl (Cod.REntries_ok ao c es _ hEb hl hb) rfl ?_
    rintro v27 w27 ⟨ao27, c27, rfl, hN27, hX27⟩
    have hEc := hEb.ext rEnt hX27
    have hXc := hXb.ext hX27
    have hs22 := hN22.1.ext hX27
    have hs27 := hN27.1
    refine W.move rfl rfl ?_
    refine W.extract rfl rfl rfl ?_
    refine W.extract rfl rfl rfl ?_
    refine W.assign rfl rfl ?_
    refine W.assign rfl rfl ?_
    refine W.nil ?_
    refine At.thenCode ?_
    refine C.seq ?_
    refine C.seq ?_
    refine C.region ?_
    refine W.move rfl rfl ?_
    refine W.bytesStr Try.underlying27 Try.underlying5 Try.underlying9 rfl hs22 rfl ?_
    refine W.move rfl rfl ?_
    refine W.bytesStr Try.underlying27 Try.underlying5 Try.underlying9 rfl hs27 rfl ?_
    refine W.neqStr rfl rfl rfl ?_
    refine W.eqv (bF (fun h => h rfl)) ?_
    refine W.move rfl rfl ?_
    refine W.wants rfl rfl rfl rfl ?_
    refine W.move rfl rfl ?_
    refine W.wants rfl rfl rfl rfl ?_
    refine W.call Try.call14 rfl (Law11.num_ok _ _) rfl ?_
    rintro v37 w37 ⟨rfl, rfl⟩
    refine W.wants rfl rfl rfl rfl ?_
    refine W.move rfl rfl ?_
    refine W.wants rfl rfl rfl rfl ?_
    refine W.neqI rfl rfl rfl ?_
    refine W.eqv (bF (fun h => h rfl)) ?_
    refine W.pickF rfl rfl rfl ?_
    refine W.nil ?_
    refine At.thenCode ?_
    refine C.condF rfl ?_
    refine C.skip ?_
    refine At.thenCode ?_
    refine C.seq ?_
    refine C.region ?_
    refine W.move rfl rfl ?_
    refine W.call Try.call19 rfl (Cod.ReadEntries_ok ao27 c27 (entsB es) _ hs27 (by omega)) rfl ?_
    rintro v43 w43 ⟨ao43, c43, rfl, hY43, hX43⟩
    have hEd : Els NoA w43 2 REnt ao c es := hEc.ext rEnt hX43
    have hXd := hXc.ext hX43
    refine W.move rfl rfl ?_
    refine W.extract rfl rfl rfl ?_
    refine W.extract rfl rfl rfl ?_
    refine W.assign rfl rfl ?_
    refine W.assign rfl rfl ?_
    refine W.nil ?_
    refine At.thenCode ?_
    refine C.seq ?_
    refine C.region ?_
    refine W.move rfl rfl ?_
    refine W.neqI rfl rfl rfl ?_
    refine W.move rfl rfl ?_
    first | refine W.splitD (fun g48 => ?_) (fun g48 => ?_) | refine W.splitB (fun g48 => ?_) (fun g48 => ?_)
    · refine W.skips rfl rfl rfl rfl rfl rfl ?_
      refine W.skips rfl rfl rfl rfl rfl rfl ?_
      refine W.skips rfl rfl rfl rfl rfl rfl ?_
      refine W.skips rfl rfl rfl rfl rfl rfl ?_
      refine W.skipsU rfl rfl rfl rfl rfl rfl ?_
      refine W.skipsU rfl rfl rfl rfl rfl rfl ?_
      refine W.skipsU rfl rfl rfl rfl rfl rfl ?_
      refine W.skips rfl rfl rfl rfl rfl rfl ?_
      refine W.pickT rfl rfl rfl ?_
      refine W.assign rfl rfl ?_
      refine W.nil ?_
      refine At.thenCode ?_
      refine C.ret ?_
      refine At.ret1 Try.results6 rfl ?_
      first
      | exact ⟨rfl, Ext.below (hXd.ext hX55)⟩
      | exact ⟨rfl, Ext.below hXd⟩
      | exact ⟨rfl, Ext.below hX11⟩
    · refine W.wants rfl rfl rfl rfl ?_
      refine W.move rfl rfl ?_
      refine W.wants rfl rfl rfl rfl ?_
      refine W.call Try.call14 rfl (Law11.num_ok _ _) rfl ?_
      rintro v50 w50 ⟨rfl, rfl⟩
      obtain ⟨hr0, hr1⟩ := hrd (by omega)
      rw [hr1] at hY43
      refine W.wants rfl rfl rfl rfl ?_
      refine W.eqlI rfl rfl rfl ?_
      refine W.eqv (bT (by omega)) ?_
      refine W.wants rfl rfl rfl rfl ?_
      refine W.move rfl rfl ?_
      refine W.wants rfl rfl rfl rfl ?_
      refine W.move rfl rfl ?_
      refine W.wants rfl rfl rfl rfl ?_
      refine W.move rfl rfl ?_
      refine W.wants rfl rfl rfl rfl ?_
      have hY : Els NoA w43 2 REnt ao43 c43 es := hY43.new rEnt fun k h _ => h.elim
      rw [hr1]
      refine W.call Try.call22 rfl (Cod.SameEntries_ok ao43 c43 ao c es _ hY hEd (by omega)) rfl ?_
      rintro v55 w55 ⟨rfl, hX55⟩
      refine W.wants rfl rfl rfl rfl ?_
      refine W.pickT rfl rfl rfl ?_
      refine W.pickF rfl rfl rfl ?_
      refine W.assign rfl rfl ?_
      refine W.nil ?_
      refine At.thenCode ?_
      refine C.ret ?_
      refine At.ret1 Try.results6 rfl ?_
      first
      | exact ⟨rfl, Ext.below (hXd.ext hX55)⟩
      | exact ⟨rfl, Ext.below hXd⟩
      | exact ⟨rfl, Ext.below hX11⟩
end Go.Proofs.Ytpjdkobmcjgcjaa.Law11
