/- The walk of chapter 11's law that the program reads as the reference does. -/
import Derived.Test.YtpjdkobmcjgcjaaLaw11b
import Derived.Test.YtpjdkobmcjgcjaaCodC
import Derived.Test.YtpjdkobmcjgcjaaCodU2
import Derived.Test.YtpjdkobmcjgcjaaCodW2
namespace Go.Proofs.Ytpjdkobmcjgcjaa.Law11
open Go Go.RowKit Go.Proofs.Ytpjdkobmcjgcjaa.KW Go.Proofs.Ytpjdkobmcjgcjaa.Words Go.Proofs.Ytpjdkobmcjgcjaa.Grp Go.Proofs.Ytpjdkobmcjgcjaa.Cod
set_option linter.unusedVariables false
set_option linter.unusedSimpArgs false
set_option maxRecDepth 100000
theorem rdEnts_len {k : Nat} : ∀ (n : Nat) (s : St), (rdEnts k n s).1.length ≤ n
  | 0, _ => Nat.le_refl _
  | n + 1, s => by
    unfold rdEnts
    split
    · exact Nat.succ_le_succ (rdEnts_len n _)
    · exact Nat.zero_le _
theorem rdLets_len {k : Nat} : ∀ (n : Nat) (s : St), (rdLets k n s).1.length ≤ n
  | 0, _ => Nat.le_refl _
  | n + 1, s => by
    unfold rdLets
    split
    · exact Nat.succ_le_succ (rdLets_len n _)
    · exact Nat.zero_le _
theorem ents_len (b : List UInt8) : (entsR b).length ≤ 1000 := by
  unfold entsR; split
  · exact Nat.le_trans (rdEnts_len _ _) (intS_le _ _)
  · exact Nat.zero_le _
theorem bat_len (b : List UInt8) : (batR b).inner.length ≤ 20 ∧ (batR b).lets.length ≤ 1000 := by
  unfold batR; split
  · have q3 := bat3_eq b
    have q4 := bat4_eq b
    have q5 := bat5_eq b
    have q7 := bat7_eq b
    have e : batS b = ⟨((bat1 b).1 : Int), ((bat2 b).1 : Int), (bat4 b).1, (bat7 b).1⟩ := rfl
    rw [e]
    generalize bat1 b = p1 at *
    generalize bat2 b = p2 at *
    generalize bat3 b = p3 at *
    generalize bat4 b = p4 at *
    generalize bat5 b = p5 at *
    generalize bat6 b = p6 at *
    generalize bat7 b = p7 at *
    constructor
    · show p4.1.length ≤ 20
      rw [q4, rdNums_len, q3]; exact intS_le _ _
    · show p7.1.length ≤ 1000
      rw [q7]; refine Nat.le_trans (rdLets_len _ _) ?_; rw [q5]; exact intS_le _ _
  · exact ⟨Nat.zero_le _, Nat.zero_le _⟩
theorem CodecReads_walk (ao : Option Addr) (c : Nat) (b : List UInt8) (w : World) (hb : Bs w ao c b) (hl : b.length ≤ 9223372036854775807) :
    Ct Try.prog 5 #[.slice ao b.length c] w (LawOk w) := by
  refine Ct.enter [(0, .slice ao b.length c)] Try.func5 rfl rfl rfl rfl ?_
  have rEs := rEnt
  refine C.seq ?_
  refine C.region ?_
  refine W.assign rfl rfl ?_
  refine W.nil ?_
  refine At.thenCode ?_
  refine C.seq ?_
  refine C.region ?_
  refine W.call Try.call10 rfl (Law11.alive_ok _) rfl ?_
  rintro v20 w20 ⟨rfl, hX20⟩
  have hb20 := hb.ext hX20
  refine W.assign rfl rfl ?_
  refine W.nil ?_
  refine At.thenCode ?_
  refine C.seq ?_
  refine C.seq ?_
  refine C.region ?_
  refine W.move rfl rfl ?_
  first | refine W.notD rfl rfl ?_ | refine W.notB rfl rfl ?_
  refine W.move rfl rfl ?_
  refine W.wants rfl rfl rfl rfl ?_
  refine W.move rfl rfl ?_
  refine W.wants rfl rfl rfl rfl ?_
  refine W.lenS rfl Try.underlying27 rfl ?_
  refine W.wants rfl rfl rfl rfl ?_
  refine W.gtrI rfl rfl rfl ?_
  refine W.pickF rfl rfl rfl ?_
  refine W.nil ?_
  refine At.thenCode ?_
  first | refine C.condD rfl (fun c27 => ?_) (fun c27 => ?_) | refine C.cond rfl (fun c27 => ?_) (fun c27 => ?_)
  · refine C.seq ?_
    refine C.region ?_
    refine W.move rfl rfl ?_
    refine W.assign rfl rfl ?_
    refine W.nil ?_
    refine At.thenCode ?_
    refine C.ret ?_
    refine At.thenRet ?_
    refine At.ret1 Try.results5 rfl ?_
    first
    | exact ⟨rfl, Ext.below (hXL.ext hX94)⟩
    | exact ⟨rfl, Ext.below hX20⟩
  · -- known too
    have hlen : b.length ≤ 1099511627776 := by omega
    refine C.skip ?_
    refine At.thenCode ?_
    refine C.seq ?_
    refine C.region ?_
    refine W.move rfl rfl ?_
    refine W.appendB (ys := b) E8 Try.underlying27 rfl rfl (Ow.nil _ w20.heap.size 5) hb20 (by simp; omega) (Nat.le_refl _) rfl ?_
    intro v31 w31 hO31 hg31 _
    have hX31 : Ext w20 w31 := (Chg.of_grown hg31).mono fun k hk => by cases hk
    rw [List.nil_append] at hO31
    obtain ⟨a31, c31, rfl, hb31, _⟩ := ownsRow_form hO31
    have hbA := hb20.ext hX31
    have hXA := hX20.ext hX31
    refine W.call Try.call19 rfl (Cod.ReadEntries_ok a31 c31 b _ hb31 hlen) rfl ?_
    rintro v32 w32 ⟨ae32, ce32, rfl, hE32, hX32⟩
    have hbB := hbA.ext hX32
    have hXB := hXA.ext hX32
    refine W.move rfl rfl ?_
    refine W.extract rfl rfl rfl ?_
    refine W.extract rfl rfl rfl ?_
    refine W.assign rfl rfl ?_
    refine W.assign rfl rfl ?_
    refine W.nil ?_
    refine At.thenCode ?_
    refine C.seq ?_
    refine C.region ?_
    refine W.move rfl rfl ?_
    refine W.call Try.call20 rfl (Cod.RReadEntries_ok ao c b _ hbB hlen) rfl ?_
    rintro v37 w37 ⟨ae37, ce37, rfl, hE37, hX37⟩
    obtain ⟨er, her⟩ : ∃ er, er = entsR b := ⟨_, rfl⟩
    have hel := ents_len b
    rw [← her] at hE32 hE37 hel ⊢
    have hbC := hbB.ext hX37
    have hXC := hXB.ext hX37
    have hE32a := Els.ext rEnt hE32 hX37
    refine W.move rfl rfl ?_
    refine W.extract rfl rfl rfl ?_
    refine W.extract rfl rfl rfl ?_
    refine W.assign rfl rfl ?_
    refine W.assign rfl rfl ?_
    refine W.nil ?_
    refine At.thenCode ?_
    refine C.seq ?_
    refine C.region ?_
    refine W.move rfl rfl ?_
    refine W.call Try.call17 rfl (Cod.ReadSubmission_ok ao c b _ hbC hlen) rfl ?_
    rintro v42 w42 ⟨vb42, rfl, hY42, hX42⟩
    obtain ⟨sr, hsr⟩ : ∃ sr, sr = subR b := ⟨_, rfl⟩
    have hso := subR_ok b
    rw [← hsr] at hY42 hso ⊢
    have hv42 := byt_one hY42
    have hcl : ∀ v, (subC sr v).length = 38 := subC_length hso
    have hbD := hbC.ext hX42
    have hXD := hXC.ext hX42
    have hE32b := Els.ext rEnt hE32a hX42
    have hE37b := Els.ext rEnt hE37 hX42
    refine W.move rfl rfl ?_
    refine W.extract rfl rfl rfl ?_
    refine W.extract rfl rfl rfl ?_
    refine W.alloc (z := .agg zeroSubC.toArray) zeroSubC (by kernel_rfl) rfl rfl ?_
    intro g8 w8 hg8 hX8 hB8
    refine W.storeA (subC sr vb42) rfl rfl hB8 (by rw [hcl]; rfl) (by rw [hcl]; kernel_rfl) (subC_one _ hv42) ?_
    intro w43 hc43 hB43
    have hX43 : Ext w42 w43 := hX8.news hc43 fun k hk => Or.inr (by omega)
    have hY43 := RdOk.ext rByt hY42 hX43
    have hbE := hbD.ext hX43
    have hXE := hXD.ext hX43
    have hE32c := Els.ext rEnt hE32b hX43
    have hE37c := Els.ext rEnt hE37b hX43
    refine W.assign rfl rfl ?_
    refine W.nil ?_
    refine At.thenCode ?_
    refine C.seq ?_
    refine C.region ?_
    refine W.move rfl rfl ?_
    refine W.call Try.call21 rfl (Cod.RReadSubmission_ok ao c b _ hbE hlen) rfl ?_
    rintro v47 w47 ⟨vb47, rfl, hY47, hX47⟩
    rw [← hsr] at hY47 ⊢
    have hv47 := byt_one hY47
    have hB47 := hB43.ext hX47
    have hY47a := RdOk.ext rByt hY43 hX47
    have hE32d := Els.ext rEnt hE32c hX47
    have hE37d := Els.ext rEnt hE37c hX47
    refine W.move rfl rfl ?_
    refine W.extract rfl rfl rfl ?_
    refine W.extract rfl rfl rfl ?_
    refine W.alloc (z := .agg zeroSubC.toArray) zeroSubC (by kernel_rfl) rfl rfl ?_
    intro g10 w10 hg10 hX10 hB10
    refine W.storeA (subC sr vb47) rfl rfl hB10 (by rw [hcl]; rfl) (by rw [hcl]; kernel_rfl) (subC_one _ hv47) ?_
    intro w48 hc48 hB48
    have hX48 : Ext w47 w48 := hX10.news hc48 fun k hk => Or.inr (by omega)
    have hY48 : RByt NoA w48 [vb42] sr.box := rByt.new (RdOk.ext rByt hY47a hX48) fun k h _ => h.elim
    have hZ48 : RByt NoA w48 [vb47] sr.box := rByt.new (RdOk.ext rByt hY47 hX48) fun k h _ => h.elim
    have hB8a := hB47.ext hX48
    have hbF := (hbE.ext hX47).ext hX48
    have hXF := (hXE.ext hX47).ext hX48
    have hE1 : Els NoA w48 2 REnt ae32 ce32 er := (Els.ext rEnt hE32d hX48).new rEnt fun k h _ => h.elim
    have hE2 : Els NoA w48 2 REnt ae37 ce37 er := (Els.ext rEnt hE37d hX48).new rEnt fun k h _ => h.elim
    refine W.assign rfl rfl ?_
    refine W.nil ?_
    refine At.thenCode ?_
    refine C.seq ?_
    refine C.seq ?_
    refine C.region ?_
    refine W.move rfl rfl ?_
    refine W.move rfl rfl ?_
    refine W.call Try.call22 rfl (Cod.SameEntries_ok ae32 ce32 ae37 ce37 er _ hE1 hE2 (by omega)) rfl ?_
    rintro v52 w52 ⟨rfl, hX52⟩
    first | refine W.notD rfl rfl ?_ | refine W.notB rfl rfl ?_
    refine W.eqv (v' := .bool false) (rfl) ?_
    refine W.move rfl rfl ?_
    refine W.wants rfl rfl rfl rfl ?_
    refine W.move rfl rfl ?_
    refine W.wants rfl rfl rfl rfl ?_
    refine W.call Try.call14 rfl (Law11.num_ok _ _) rfl ?_
    rintro v56 w56 ⟨rfl, rfl⟩
    refine W.wants rfl rfl rfl rfl ?_
    refine W.move rfl rfl ?_
    refine W.wants rfl rfl rfl rfl ?_
    refine W.neqI rfl rfl rfl ?_
    refine W.eqv (bF (fun h => h rfl)) ?_
    refine W.pickF rfl rfl rfl ?_
    refine W.move rfl rfl ?_
    refine W.wants rfl rfl rfl rfl ?_
    refine W.loadA rfl ((hB8a.ext hX52).cells (o := 0)) Try.underlying40 rfl (by rw [List.drop_zero, hcl]; kernel_rfl) rfl ?_
    rw [List.drop_zero]
    refine W.wants rfl rfl rfl rfl ?_
    refine W.loadA rfl ((hB48.ext hX52).cells (o := 0)) Try.underlying40 rfl (by rw [List.drop_zero, hcl]; kernel_rfl) rfl ?_
    rw [List.drop_zero]
    refine W.wants rfl rfl rfl rfl ?_
    refine W.call Try.call18 rfl (Cod.SameSubmission_ok sr vb42 vb47 _ hso (RdOk.ext rByt hY48 hX52) (RdOk.ext rByt hZ48 hX52)) rfl ?_
    rintro v63 w63 ⟨rfl, hX63⟩
    have hbG := (hbF.ext hX52).ext hX63
    have hXG := (hXF.ext hX52).ext hX63
    refine W.wants rfl rfl rfl rfl ?_
    first | refine W.notD rfl rfl ?_ | refine W.notB rfl rfl ?_
    refine W.eqv (v' := .bool false) (rfl) ?_
    refine W.pickF rfl rfl rfl ?_
    refine W.move rfl rfl ?_
    refine W.wants rfl rfl rfl rfl ?_
    refine W.move rfl rfl ?_
    refine W.wants rfl rfl rfl rfl ?_
    refine W.call Try.call14 rfl (Law11.num_ok _ _) rfl ?_
    rintro v68 w68 ⟨rfl, rfl⟩
    refine W.wants rfl rfl rfl rfl ?_
    refine W.move rfl rfl ?_
    refine W.wants rfl rfl rfl rfl ?_
    refine W.neqI rfl rfl rfl ?_
    refine W.eqv (bF (fun h => h rfl)) ?_
    refine W.pickF rfl rfl rfl ?_
    refine W.eqv (v' := .bool false) (rfl) ?_
    refine W.nil ?_
    refine At.thenCode ?_
    refine C.condF rfl ?_
    refine C.skip ?_
    refine At.thenCode ?_
    refine C.seq ?_
    refine C.region ?_
    refine W.move rfl rfl ?_
    refine W.call Try.call23 rfl (Cod.ReadBatch_ok ao c b _ hbG hlen) rfl ?_
    rintro v74 w74 ⟨vi74, vl74, rfl, hI74, hL74, hX74⟩
    obtain ⟨xr, hxr⟩ : ∃ xr, xr = batR b := ⟨_, rfl⟩
    have hxo := batR_ok b
    have hxl := bat_len b
    rw [← hxr] at hI74 hL74 hxo hxl ⊢
    have hvi74 := rNums.one hI74 vi74 (by simp)
    have hvl74 := (rSl 33 rLet).one hL74 vl74 (by simp)
    have hbH := hbG.ext hX74
    have hXH := hXG.ext hX74
    refine W.move rfl rfl ?_
    refine W.extract rfl rfl rfl ?_
    refine W.extract rfl rfl rfl ?_
    refine W.alloc (z := .agg zeroBatC.toArray) zeroBatC (by kernel_rfl) rfl rfl ?_
    intro g12 w12 hg12 hX12 hB12
    refine W.storeA (batC xr vi74 vl74) rfl rfl hB12 rfl (by kernel_rfl) (batC_one _ hvi74 hvl74) ?_
    intro w75 hc75 hB75
    have hX75 : Ext w74 w75 := hX12.news hc75 fun k hk => Or.inr (by omega)
    have hI75 : RNums NoA w75 [vi74] xr.inner := rNums.new (RdOk.ext rNums hI74 hX75) fun k h _ => h.elim
    have hL75 : RSl 33 RLet NoA w75 [vl74] xr.lets := (rSl 33 rLet).new (RdOk.ext (rSl 33 rLet) hL74 hX75) fun k h _ => h.elim
    have hbI := hbH.ext hX75
    have hXI := hXH.ext hX75
    refine W.assign rfl rfl ?_
    refine W.nil ?_
    refine At.thenCode ?_
    refine C.seq ?_
    refine C.region ?_
    refine W.move rfl rfl ?_
    refine W.call Try.call24 rfl (Cod.RReadBatch_ok ao c b _ hbI hlen) rfl ?_
    rintro v79 w79 ⟨vi79, vl79, rfl, hI79, hL79, hX79⟩
    rw [← hxr] at hI79 hL79 ⊢
    have hvi79 := rNums.one hI79 vi79 (by simp)
    have hvl79 := (rSl 33 rLet).one hL79 vl79 (by simp)
    refine W.move rfl rfl ?_
    refine W.extract rfl rfl rfl ?_
    refine W.extract rfl rfl rfl ?_
    refine W.alloc (z := .agg zeroBatC.toArray) zeroBatC (by kernel_rfl) rfl rfl ?_
    intro g14 w14 hg14 hX14 hB14
    refine W.storeA (batC xr vi79 vl79) rfl rfl hB14 rfl (by kernel_rfl) (batC_one _ hvi79 hvl79) ?_
    intro w80 hc80 hB80
    have hX80 : Ext w79 w80 := hX14.news hc80 fun k hk => Or.inr (by omega)
    have hI80 : RNums NoA w80 [vi79] xr.inner := rNums.new (RdOk.ext rNums hI79 hX80) fun k h _ => h.elim
    have hL80 : RSl 33 RLet NoA w80 [vl79] xr.lets := (rSl 33 rLet).new (RdOk.ext (rSl 33 rLet) hL79 hX80) fun k h _ => h.elim
    have hX81 := hX79.ext hX80
    have hI81 := RdOk.ext rNums hI75 hX81
    have hL81 := RdOk.ext (rSl 33 rLet) hL75 hX81
    have hB81 := hB75.ext hX81
    have hbJ := hbI.ext hX81
    have hXJ := hXI.ext hX81
    refine W.assign rfl rfl ?_
    refine W.nil ?_
    refine At.thenCode ?_
    refine C.seq ?_
    refine C.region ?_
    refine W.move rfl rfl ?_
    refine W.call Try.call12 rfl (Cod.ReadNote_ok ao c b _ hbJ hlen) rfl ?_
    rintro v84 w84 ⟨rfl, hX84⟩
    obtain ⟨nr, hnr⟩ : ∃ nr, nr = noteR b := ⟨_, rfl⟩
    have hno := noteR_ok b
    rw [← hnr] at hno ⊢
    have hnl := noteC_length hno
    refine W.move rfl rfl ?_
    refine W.extract rfl rfl rfl ?_
    refine W.extract rfl rfl rfl ?_
    refine W.alloc (z := .agg zeroNoteC.toArray) zeroNoteC (by kernel_rfl) rfl rfl ?_
    intro g16 w16 hg16 hX16 hB16
    refine W.storeA (noteC nr) rfl rfl hB16 (by rw [hnl]; rfl) (by rw [hnl]; kernel_rfl) (noteC_one _) ?_
    intro w85 hc85 hB85
    have hX85 : Ext w84 w85 := hX16.news hc85 fun k hk => Or.inr (by omega)
    have hbK := (hbJ.ext hX84).ext hX85
    have hXK := (hXJ.ext hX84).ext hX85
    refine W.assign rfl rfl ?_
    refine W.nil ?_
    refine At.thenCode ?_
    refine C.seq ?_
    refine C.region ?_
    refine W.move rfl rfl ?_
    refine W.call Try.call25 rfl (Cod.RReadNote_ok ao c b _ hbK hlen) rfl ?_
    rintro v89 w89 ⟨rfl, hX89⟩
    rw [← hnr]
    refine W.move rfl rfl ?_
    refine W.extract rfl rfl rfl ?_
    refine W.extract rfl rfl rfl ?_
    refine W.alloc (z := .agg zeroNoteC.toArray) zeroNoteC (by kernel_rfl) rfl rfl ?_
    intro g18 w18 hg18 hX18 hB18
    refine W.storeA (noteC nr) rfl rfl hB18 (by rw [hnl]; rfl) (by rw [hnl]; kernel_rfl) (noteC_one _) ?_
    intro w90 hc90 hB90
    have hX90 : Ext w89 w90 := hX18.news hc90 fun k hk => Or.inr (by omega)
    have hX91 := hX89.ext hX90
    have hX92 := ((hX84.ext hX85).ext hX89).ext hX90
    have hB92 := hB81.ext hX92
    have hB93 := hB80.ext hX92
    have hB94 := hB85.ext hX91
    have hXL := hXK.ext hX91
    refine W.assign rfl rfl ?_
    refine W.nil ?_
    refine At.thenCode ?_
    refine C.seq ?_
    refine C.region ?_
    refine W.loadA rfl (hB92.cells (o := 0)) Try.underlying60 rfl (by kernel_rfl) rfl ?_
    rw [List.drop_zero]
    refine W.loadA rfl (hB93.cells (o := 0)) Try.underlying60 rfl (by kernel_rfl) rfl ?_
    rw [List.drop_zero]
    refine W.call Try.call26 rfl (Cod.SameBatch_ok xr vi74 vl74 vi79 vl79 _ (RdOk.ext rNums hI81 hX92) (RdOk.ext (rSl 33 rLet) hL81 hX92) (RdOk.ext rNums hI80 hX92) (RdOk.ext (rSl 33 rLet) hL80 hX92) (by omega) (by omega)) rfl ?_
    rintro v94 w94 ⟨rfl, hX94⟩
    refine W.eqv (v' := .bool true) (rfl) ?_
    refine W.move rfl rfl ?_
    refine W.eqv (v' := .bool true) (rfl) ?_
    refine W.wants rfl rfl rfl rfl ?_
    refine W.move rfl rfl ?_
    refine W.wants rfl rfl rfl rfl ?_
    refine W.call Try.call14 rfl (Law11.num_ok _ _) rfl ?_
    rintro v97 w97 ⟨rfl, rfl⟩
    refine W.wants rfl rfl rfl rfl ?_
    refine W.move rfl rfl ?_
    refine W.wants rfl rfl rfl rfl ?_
    refine W.eqlI rfl rfl rfl ?_
    refine W.eqv (bT (rfl)) ?_
    refine W.pickT rfl rfl rfl ?_
    refine W.eqv (v' := .bool true) (rfl) ?_
    refine W.move rfl rfl ?_
    refine W.eqv (v' := .bool true) (rfl) ?_
    refine W.wants rfl rfl rfl rfl ?_
    refine W.loadA rfl ((hB94.ext hX94).cells (o := 0)) Try.underlying25 rfl (by rw [List.drop_zero, hnl]; kernel_rfl) rfl ?_
    rw [List.drop_zero]
    refine W.wants rfl rfl rfl rfl ?_
    refine W.loadA rfl ((hB90.ext hX94).cells (o := 0)) Try.underlying25 rfl (by rw [List.drop_zero, hnl]; kernel_rfl) rfl ?_
    rw [List.drop_zero]
    refine W.wants rfl rfl rfl rfl ?_
    refine W.eqlP (ks := noteK) (by kernel_rfl) (by kernel_rfl) rfl rfl (noteC_typed hno) (noteC_typed hno) (by kernel_rfl) rfl ?_
    refine W.eqv (bT (rfl)) ?_
    refine W.pickT rfl rfl rfl ?_
    refine W.move rfl rfl ?_
    refine W.wants rfl rfl rfl rfl ?_
    refine W.move rfl rfl ?_
    refine W.wants rfl rfl rfl rfl ?_
    refine W.call Try.call14 rfl (Law11.num_ok _ _) rfl ?_
    rintro v108 w108 ⟨rfl, rfl⟩
    refine W.wants rfl rfl rfl rfl ?_
    refine W.move rfl rfl ?_
    refine W.wants rfl rfl rfl rfl ?_
    refine W.eqlI rfl rfl rfl ?_
    refine W.eqv (bT (rfl)) ?_
    refine W.pickT rfl rfl rfl ?_
    refine W.assign rfl rfl ?_
    refine W.nil ?_
    refine At.thenCode ?_
    refine C.ret ?_
    refine At.ret1 Try.results5 rfl ?_
    first
    | exact ⟨rfl, Ext.below (hXL.ext hX94)⟩
    | exact ⟨rfl, Ext.below hX20⟩
end Go.Proofs.Ytpjdkobmcjgcjaa.Law11
