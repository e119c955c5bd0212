/- The walk of chapter 11's law of submissions. -/
import Derived.Test.YtpjdkobmcjgcjaaLaw11d
import Derived.Test.YtpjdkobmcjgcjaaCodN
namespace Go.Proofs.Ytpjdkobmcjgcjaa.Law11
open Go Go.RowKit Go.Proofs.Ytpjdkobmcjgcjaa.KW Go.Proofs.Ytpjdkobmcjgcjaa.Words Go.Proofs.Ytpjdkobmcjgcjaa.Grp Go.Proofs.Ytpjdkobmcjgcjaa.Cod
set_option linter.unusedVariables false
set_option linter.unusedSimpArgs false
set_option maxRecDepth 100000
theorem subB_length {s : SubD} (h : SubOk s) : (subB s).length ≤ 80 + s.box.length := by
  unfold subB
  split
  · simp only [List.length_append, be64_length, h.1]; omega
  · exact Nat.zero_le _
theorem CodecSubmissions_walk (s : SubD) (vb : Value) (w : World) (hb : RByt (fun _ => False) w [vb] s.box) (ho : SubOk s) (hl : s.box.length ≤ 9223372036854775807) :
    Ct Try.prog 4 #[.agg (subC s vb).toArray] w (LawOk w) := by
  refine Ct.enter [(0, .agg (subC s vb).toArray)] Try.func4 rfl rfl rfl rfl ?_
  have hcl : ∀ v, (subC s v).length = 38 := subC_length ho
  have hBl := subB_length ho
  have hone := byt_one hb
  have hg1 := subC_get (v := vb) ho.1 1
  obtain ⟨er, her⟩ : ∃ er, er = subE s := ⟨_, rfl⟩
  have hrd := sub_read s
  obtain ⟨ab, cb, hvb, hsb, _⟩ := hb.form
  refine C.seq ?_
  refine C.region ?_
  refine W.box (subC s vb) rfl rfl rfl ?_
  intro g1 w1 hg1' hXb hB1
  refine W.assign rfl rfl ?_
  refine W.nil ?_
  refine At.thenCode ?_
  refine C.seq ?_
  refine C.region ?_
  refine W.call Try.call10 rfl (Law11.alive_ok _) rfl ?_
  rintro v10 w10 ⟨rfl, hX10⟩
  have hXa := hXb.ext hX10
  have hBa := hB1.ext hX10
  have hba := RdOk.ext rByt hb hXa
  refine W.assign rfl rfl ?_
  refine W.nil ?_
  refine At.thenCode ?_
  refine C.seq ?_
  refine C.seq ?_
  refine C.region ?_
  refine W.move rfl rfl ?_
  first | refine W.notD rfl rfl ?_ | refine W.notB rfl rfl ?_
  refine W.move rfl rfl ?_
  refine W.wants rfl rfl rfl rfl ?_
  refine W.fieldB (off := 32) (size := 2) (t := 36) (Fld.of (by kernel_rfl)) rfl rfl rfl ?_
  refine W.wants rfl rfl rfl rfl ?_
  refine W.fieldB (off := 1) (size := 1) (t := 27) (Fld.of (by kernel_rfl)) rfl rfl rfl ?_
  refine W.wants rfl rfl rfl rfl ?_
  refine W.loadB (v := .slice ab s.box.length cb) rfl Try.underlying27 rfl hBa (by rw [hg1, hvb]; rfl) rfl ?_
  refine W.wants rfl rfl rfl rfl ?_
  refine W.lenS rfl Try.underlying27 rfl ?_
  refine W.wants rfl rfl rfl rfl ?_
  refine W.gtrI rfl rfl rfl ?_
  refine W.pickF rfl rfl rfl ?_
  refine W.nil ?_
  refine At.thenCode ?_
  first | refine C.condD rfl (fun c19 => ?_) (fun c19 => ?_) | refine C.cond rfl (fun c19 => ?_) (fun c19 => ?_)
  · refine C.seq ?_
    refine C.region ?_
    refine W.move rfl rfl ?_
    refine W.assign rfl rfl ?_
    refine W.nil ?_
    refine At.thenCode ?_
    refine C.ret ?_
    refine At.thenRet ?_
    refine At.ret1 Try.results4 rfl ?_
    first
    | exact ⟨rfl, Ext.below (hXf.ext hX56)⟩
    | exact ⟨rfl, Ext.below hXf⟩
    | exact ⟨rfl, Ext.below hXa⟩
  · -- known too
    have hbl : s.box.length ≤ 500 := by omega
    refine C.skip ?_
    refine At.thenCode ?_
    refine C.seq ?_
    refine C.region ?_
    refine W.loadA rfl (hBa.cells (o := 0)) Try.underlying40 rfl (by rw [List.drop_zero, hcl]; kernel_rfl) rfl ?_
    rw [List.drop_zero]
    refine W.call Try.call15 rfl (Cod.Submission_ok s vb _ ⟨vb, rfl, hba, ho⟩ hba ho hl) rfl ?_
    rintro v23 w23 ⟨ao23, c23, rfl, hN23, hX23⟩
    have hXc := hXa.ext hX23
    have hBc := hBa.ext hX23
    have hbc := RdOk.ext rByt hba hX23
    refine W.move rfl rfl ?_
    refine W.extract rfl rfl rfl ?_
    refine W.extract rfl rfl rfl ?_
    refine W.assign rfl rfl ?_
    refine W.assign rfl rfl ?_
    refine W.nil ?_
    refine At.thenCode ?_
    refine C.seq ?_
    refine C.region ?_
    refine W.loadA rfl (hBc.cells (o := 0)) Try.underlying40 rfl (by rw [List.drop_zero, hcl]; kernel_rfl) rfl ?_
    rw [List.drop_zero]
    refine W.call Try.call16 rfl (Cod.RSubmission_ok s vb _ hbc ho hl) rfl ?_
    rintro v28 w28 ⟨ao28, c28, rfl, hN28, hX28⟩
    have hXd := hXc.ext hX28
    have hBd := hBc.ext hX28
    have hbd := RdOk.ext rByt hbc hX28
    have hs23 := hN23.1.ext hX28
    have hs28 := hN28.1
    refine W.move rfl rfl ?_
    refine W.extract rfl rfl rfl ?_
    refine W.extract rfl rfl rfl ?_
    refine W.assign rfl rfl ?_
    refine W.assign rfl rfl ?_
    refine W.nil ?_
    refine At.thenCode ?_
    refine C.seq ?_
    refine C.seq ?_
    refine C.region ?_
    refine W.move rfl rfl ?_
    refine W.bytesStr Try.underlying27 Try.underlying5 Try.underlying9 rfl hs23 rfl ?_
    refine W.move rfl rfl ?_
    refine W.bytesStr Try.underlying27 Try.underlying5 Try.underlying9 rfl hs28 rfl ?_
    refine W.neqStr rfl rfl rfl ?_
    refine W.eqv (bF (fun h => h rfl)) ?_
    refine W.move rfl rfl ?_
    refine W.wants rfl rfl rfl rfl ?_
    refine W.move rfl rfl ?_
    refine W.wants rfl rfl rfl rfl ?_
    refine W.call Try.call14 rfl (Law11.num_ok _ _) rfl ?_
    rintro v38 w38 ⟨rfl, rfl⟩
    refine W.wants rfl rfl rfl rfl ?_
    refine W.move rfl rfl ?_
    refine W.wants rfl rfl rfl rfl ?_
    refine W.neqI rfl rfl rfl ?_
    refine W.eqv (bF (fun h => h rfl)) ?_
    refine W.pickF rfl rfl rfl ?_
    refine W.nil ?_
    refine At.thenCode ?_
    refine C.condF rfl ?_
    refine C.skip ?_
    refine At.thenCode ?_
    refine C.seq ?_
    refine C.region ?_
    refine W.move rfl rfl ?_
    refine W.call Try.call17 rfl (Cod.ReadSubmission_ok ao28 c28 (subB s) _ hs28 (by omega)) rfl ?_
    rintro v44 w44 ⟨vb44, rfl, hY44, hX44⟩
    have hso := subR_ok (subB s)
    have hv44 := byt_one hY44
    have hrl : ∀ v, (subC (subR (subB s)) v).length = 38 := subC_length hso
    have hXe := hXd.ext hX44
    have hBe := hBd.ext hX44
    have hbe := RdOk.ext rByt hbd hX44
    refine W.move rfl rfl ?_
    refine W.extract rfl rfl rfl ?_
    refine W.extract rfl rfl rfl ?_
    refine W.alloc (z := .agg zeroSubC.toArray) zeroSubC (by kernel_rfl) rfl rfl ?_
    intro g8 w8 hg8 hX8 hB8
    refine W.storeA (subC (subR (subB s)) vb44) rfl rfl hB8 (by rw [hrl]; rfl) (by rw [hrl]; kernel_rfl) (subC_one _ hv44) ?_
    intro w45 hc45 hB45
    have hX45 : Ext w44 w45 := hX8.news hc45 fun k hk => Or.inr (by omega)
    have hXf := hXe.ext hX45
    have hBf := hBe.ext hX45
    have hbf := RdOk.ext rByt hbe hX45
    have hY45 : RByt NoA w45 [vb44] (subR (subB s)).box := rByt.new (RdOk.ext rByt hY44 hX45) fun k h _ => h.elim
    refine W.assign rfl rfl ?_
    refine W.nil ?_
    refine At.thenCode ?_
    refine C.seq ?_
    refine C.region ?_
    refine W.move rfl rfl ?_
    refine W.neqI rfl rfl rfl ?_
    refine W.move rfl rfl ?_
    first | refine W.splitD (fun g49 => ?_) (fun g49 => ?_) | refine W.splitB (fun g49 => ?_) (fun g49 => ?_)
    · refine W.skips rfl rfl rfl rfl rfl rfl ?_
      refine W.skips rfl rfl rfl rfl rfl rfl ?_
      refine W.skips rfl rfl rfl rfl rfl rfl ?_
      refine W.skips rfl rfl rfl rfl rfl rfl ?_
      refine W.skipsU rfl rfl rfl rfl rfl rfl ?_
      refine W.skipsU rfl rfl rfl rfl rfl rfl ?_
      refine W.skipsU rfl rfl rfl rfl rfl rfl ?_
      refine W.skips rfl rfl rfl rfl rfl rfl ?_
      refine W.pickT rfl rfl rfl ?_
      refine W.assign rfl rfl ?_
      refine W.nil ?_
      refine At.thenCode ?_
      refine C.ret ?_
      refine At.ret1 Try.results4 rfl ?_
      first
      | exact ⟨rfl, Ext.below (hXf.ext hX56)⟩
      | exact ⟨rfl, Ext.below hXf⟩
      | exact ⟨rfl, Ext.below hXa⟩
    · refine W.wants rfl rfl rfl rfl ?_
      refine W.move rfl rfl ?_
      refine W.wants rfl rfl rfl rfl ?_
      refine W.call Try.call14 rfl (Law11.num_ok _ _) rfl ?_
      rintro v51 w51 ⟨rfl, rfl⟩
      obtain ⟨hr0, hr1⟩ := hrd (by omega) ho
      rw [hr1] at hB45 hY45
      refine W.wants rfl rfl rfl rfl ?_
      refine W.eqlI rfl rfl rfl ?_
      refine W.eqv (bT (by omega)) ?_
      refine W.wants rfl rfl rfl rfl ?_
      refine W.move rfl rfl ?_
      refine W.wants rfl rfl rfl rfl ?_
      refine W.loadA rfl (hB45.cells (o := 0)) Try.underlying40 rfl (by rw [List.drop_zero, hcl]; kernel_rfl) rfl ?_
      rw [List.drop_zero]
      refine W.wants rfl rfl rfl rfl ?_
      refine W.loadA rfl (hBf.cells (o := 0)) Try.underlying40 rfl (by rw [List.drop_zero, hcl]; kernel_rfl) rfl ?_
      rw [List.drop_zero]
      refine W.wants rfl rfl rfl rfl ?_
      refine W.call Try.call18 rfl (Cod.SameSubmission_ok s vb44 vb _ ho hY45 hbf) rfl ?_
      rintro v56 w56 ⟨rfl, hX56⟩
      refine W.wants rfl rfl rfl rfl ?_
      refine W.pickT rfl rfl rfl ?_
      refine W.pickF rfl rfl rfl ?_
      refine W.assign rfl rfl ?_
      refine W.nil ?_
      refine At.thenCode ?_
      refine C.ret ?_
      refine At.ret1 Try.results4 rfl ?_
      first
      | exact ⟨rfl, Ext.below (hXf.ext hX56)⟩
      | exact ⟨rfl, Ext.below hXf⟩
      | exact ⟨rfl, Ext.below hXa⟩
end Go.Proofs.Ytpjdkobmcjgcjaa.Law11
