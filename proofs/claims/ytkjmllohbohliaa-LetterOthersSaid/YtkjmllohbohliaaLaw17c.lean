/- The walk of chapter 17's law on the two sides of a talk. -/
import Derived.Test.YtkjmllohbohliaaLaw17b
import Derived.Test.YtkjmllohbohliaaLet7
namespace Go.Proofs.Ytkjmllohbohliaa.Law17
open Go Go.RowKit Go.Proofs.Ytkjmllohbohliaa.KW Go.Proofs.Ytkjmllohbohliaa.Words Go.Proofs.Ytkjmllohbohliaa.Sha Go.Proofs.Ytkjmllohbohliaa.RSha Go.Proofs.Ytkjmllohbohliaa.Derive Go.Proofs.Ytkjmllohbohliaa.Seal Go.Proofs.Ytkjmllohbohliaa.Grp Go.Proofs.Ytkjmllohbohliaa.Cod Go.Proofs.Ytkjmllohbohliaa.Let
set_option linter.unusedVariables false
set_option linter.unusedSimpArgs false
set_option maxRecDepth 100000
theorem readN_ok (T K b : List UInt8) : NoteOk (readN T K b) := by
  unfold readN; split
  · exact noteR_ok _
  · exact zeroNoteOk
theorem LetterSides_walk (x y : Nat) (i : Int) (n1 n2 : NoteD) (w : World) (hx : x < 18446744073709551616) (hy : y < 18446744073709551616) (hi : -9223372036854775808 ≤ i ∧ i ≤ 9223372036854775807) (hn1 : NoteOk n1) (hn2 : NoteOk n2) :
    Ct Try.prog 11 #[.int .u64 (x : Int), .int .u64 (y : Int), .int .i64 i, .agg (noteC n1).toArray, .agg (noteC n2).toArray] w (LawOk w) := by
  refine Ct.enter [(0, .int .u64 (x : Int)), (1, .int .u64 (y : Int)), (2, .int .i64 i), (3, .agg (noteC n1).toArray), (4, .agg (noteC n2).toArray)] Try.func11 rfl rfl rfl rfl ?_
  have hl1 := noteC_length hn1
  have hl2 := noteC_length hn2
  obtain ⟨m, hm⟩ : ∃ m, iu 18446744073709551616 i = m := ⟨_, rfl⟩
  obtain ⟨ho1, hv1⟩ := talk_opens x y m n1
  obtain ⟨ho2, hv2⟩ := talk_opens y x m n2
  have ht1 := talkB_length (x := x) (y := timesV 37 y) (m := m) hn1
  have ht2 := talkB_length (x := y) (y := timesV 37 x) (m := m) hn2
  have hlb := loopB_length x m
  obtain ⟨N, hN⟩ : ∃ N, N = readN (betweenV x (timesV 37 y) (nameV (timesV 37 x)) m) (nameV (timesV 37 x)) (loopB x m) := ⟨_, rfl⟩
  obtain ⟨r, hr⟩ : ∃ r, r = readB (betweenV x (timesV 37 y) (nameV (timesV 37 x)) m) (nameV (timesV 37 x)) (loopB x m) := ⟨_, rfl⟩
  have hNl := noteC_length (show NoteOk N by rw [hN]; exact readN_ok _ _ _)
  refine C.seq ?_
  refine C.region ?_
  refine W.box (noteC n1) rfl rfl rfl ?_
  intro g8 w8 hg8 hX8 hN8
  refine W.box (noteC n2) rfl rfl rfl ?_
  intro g9 w9 hg9 hX9 hN9
  refine W.assign rfl rfl ?_
  refine W.nil ?_
  refine At.thenCode ?_
  refine C.seq ?_
  refine C.region ?_
  refine W.call Try.call17 rfl (Law17.alive_ok _) rfl ?_
  rintro v22 w22 ⟨rfl, hX22⟩
  have hXa := (hX8.ext hX9).ext hX22
  have hN8a := (hN8.ext hX9).ext hX22
  have hN9a := hN9.ext hX22
  refine W.assign rfl rfl ?_
  refine W.nil ?_
  refine At.thenCode ?_
  refine C.seq ?_
  refine C.seq ?_
  refine C.region ?_
  refine W.move rfl rfl ?_
  first | refine W.notD rfl rfl ?_ | refine W.notB rfl rfl ?_
  refine W.eqv (v' := .bool false) (rfl) ?_
  refine W.nil ?_
  refine At.thenCode ?_
  refine C.condF rfl ?_
  refine C.skip ?_
  refine At.thenCode ?_
  refine C.seq ?_
  refine C.region ?_
  refine W.move rfl rfl ?_
  refine W.call Try.call19 rfl (Grp.RBase_ok x (by omega) _) rfl ?_
  rintro v27 w27 ⟨rfl, rfl⟩
  refine W.assign rfl rfl ?_
  refine W.nil ?_
  refine At.thenCode ?_
  refine C.seq ?_
  refine C.region ?_
  refine W.move rfl rfl ?_
  refine W.call Try.call19 rfl (Grp.RBase_ok y (by omega) _) rfl ?_
  rintro v29 w29 ⟨rfl, rfl⟩
  refine W.assign rfl rfl ?_
  refine W.nil ?_
  refine At.thenCode ?_
  refine C.seq ?_
  refine C.region ?_
  refine W.move rfl rfl ?_
  refine W.move rfl rfl ?_
  refine W.move rfl rfl ?_
  refine W.move rfl rfl ?_
  refine W.move rfl rfl ?_
  refine W.move rfl rfl ?_
  refine W.loadA rfl (hN8a.cells (o := 0)) Try.underlying34 rfl (by rw [List.drop_zero, hl1]; kernel_rfl) rfl ?_
  rw [List.drop_zero]
  refine W.call Try.call18 rfl (Let.Talk_ok x (timesV 37 y) i m n1 _ hx hm hn1) rfl ?_
  rintro v38 w38 ⟨⟨a38, c38, rfl, hb38, _⟩, hX38⟩
  refine W.call Try.call29 rfl (Let.Read_ok y (timesV 37 x) i m a38 c38 _ n1 _ hy hm hn1 hb38 (by rw [ht1]; decide) ho1 hv1) rfl ?_
  rintro v39 w39 ⟨rfl, hX39⟩
  refine W.move rfl rfl ?_
  refine W.extract rfl rfl rfl ?_
  refine W.extract rfl rfl rfl ?_
  refine W.eqv (v' := .bool true) (rfl) ?_
  refine W.alloc (z := .agg (noteC zeroNote).toArray) (noteC zeroNote) (by kernel_rfl) rfl rfl ?_
  intro g14 w14 hg14 hX14 hB14
  refine W.storeA (noteC n1) rfl rfl hB14 (by rw [hl1]; rfl) (by rw [hl1]; kernel_rfl) (noteC_one _) ?_
  intro w41 hc41 hB41
  have hX41 := (hX38.ext hX39).ext (hX14.news hc41 fun k hk => Or.inr (by omega))
  have hXb := hXa.ext hX41
  have hN8b := hN8a.ext hX41
  have hN9b := hN9a.ext hX41
  refine W.assign rfl rfl ?_
  refine W.nil ?_
  refine At.thenCode ?_
  refine C.seq ?_
  refine C.region ?_
  refine W.move rfl rfl ?_
  refine W.move rfl rfl ?_
  refine W.move rfl rfl ?_
  refine W.move rfl rfl ?_
  refine W.move rfl rfl ?_
  refine W.move rfl rfl ?_
  refine W.loadA rfl (hN9b.cells (o := 0)) Try.underlying34 rfl (by rw [List.drop_zero, hl2]; kernel_rfl) rfl ?_
  rw [List.drop_zero]
  refine W.call Try.call18 rfl (Let.Talk_ok y (timesV 37 x) i m n2 _ hy hm hn2) rfl ?_
  rintro v50 w50 ⟨⟨a50, c50, rfl, hb50, _⟩, hX50⟩
  refine W.call Try.call29 rfl (Let.Read_ok x (timesV 37 y) i m a50 c50 _ n2 _ hx hm hn2 hb50 (by rw [ht2]; decide) ho2 hv2) rfl ?_
  rintro v51 w51 ⟨rfl, hX51⟩
  refine W.move rfl rfl ?_
  refine W.extract rfl rfl rfl ?_
  refine W.extract rfl rfl rfl ?_
  refine W.eqv (v' := .bool true) (rfl) ?_
  refine W.alloc (z := .agg (noteC zeroNote).toArray) (noteC zeroNote) (by kernel_rfl) rfl rfl ?_
  intro g16 w16 hg16 hX16 hB16
  refine W.storeA (noteC n2) rfl rfl hB16 (by rw [hl2]; rfl) (by rw [hl2]; kernel_rfl) (noteC_one _) ?_
  intro w53 hc53 hB53
  have hX53 := (hX50.ext hX51).ext (hX16.news hc53 fun k hk => Or.inr (by omega))
  have hXc := hXb.ext hX53
  have hN8c := hN8b.ext hX53
  have hN9c := hN9b.ext hX53
  have hB41c := hB41.ext hX53
  refine W.assign rfl rfl ?_
  refine W.nil ?_
  refine At.thenCode ?_
  refine C.seq ?_
  refine C.region ?_
  refine W.move rfl rfl ?_
  refine W.move rfl rfl ?_
  refine W.move rfl rfl ?_
  refine W.move rfl rfl ?_
  refine W.move rfl rfl ?_
  refine W.call Try.call20 rfl (Let.Loop_ok x i m _ hx hm) rfl ?_
  rintro v60 w60 ⟨⟨a60, c60, rfl, hb60, _⟩, hX60⟩
  refine W.call Try.call29 rfl (Let.ReadG_ok x (timesV 37 y) i m a60 c60 _ _ hx hm hb60 (by rw [hlb]; decide)) rfl ?_
  rintro v61 w61 ⟨rfl, hX61⟩
  rw [← hN, ← hr]
  refine W.move rfl rfl ?_
  refine W.extract rfl rfl rfl ?_
  refine W.extract rfl rfl rfl ?_
  refine W.alloc (z := .agg (noteC zeroNote).toArray) (noteC zeroNote) (by kernel_rfl) rfl rfl ?_
  intro g18 w18 hg18 hX18 hB18
  refine W.storeA (noteC N) rfl rfl hB18 (by rw [hNl]; rfl) (by rw [hNl]; kernel_rfl) (noteC_one _) ?_
  intro w63 hc63 hB63
  have hX63 := (hX60.ext hX61).ext (hX18.news hc63 fun k hk => Or.inr (by omega))
  have hXd := hXc.ext hX63
  refine W.assign rfl rfl ?_
  refine W.nil ?_
  refine At.thenCode ?_
  refine C.seq ?_
  refine C.region ?_
  refine W.move rfl rfl ?_
  refine W.move rfl rfl ?_
  refine W.move rfl rfl ?_
  refine W.move rfl rfl ?_
  refine W.move rfl rfl ?_
  refine W.call Try.call28 rfl (Let.RLoop_ok x i m _ hx hm) rfl ?_
  rintro v70 w70 ⟨⟨a70, c70, rfl, hb70, _⟩, hX70⟩
  refine W.call Try.call30 rfl (Let.RRead_ok x (timesV 37 y) i m a70 c70 _ _ hx hm hb70 (by rw [hlb]; decide)) rfl ?_
  rintro v71 w71 ⟨rfl, hX71⟩
  rw [← hN, ← hr]
  refine W.move rfl rfl ?_
  refine W.extract rfl rfl rfl ?_
  refine W.extract rfl rfl rfl ?_
  refine W.alloc (z := .agg (noteC zeroNote).toArray) (noteC zeroNote) (by kernel_rfl) rfl rfl ?_
  intro g20 w20 hg20 hX20 hB20
  refine W.storeA (noteC N) rfl rfl hB20 (by rw [hNl]; rfl) (by rw [hNl]; kernel_rfl) (noteC_one _) ?_
  intro w73 hc73 hB73
  have hX73 := (hX70.ext hX71).ext (hX20.news hc73 fun k hk => Or.inr (by omega))
  have hXe := hXd.ext hX73
  have hN8e := (hN8c.ext hX63).ext hX73
  have hN9e := (hN9c.ext hX63).ext hX73
  have hB41e := (hB41c.ext hX63).ext hX73
  have hB53e := (hB53.ext hX63).ext hX73
  refine W.assign rfl rfl ?_
  refine W.nil ?_
  refine At.thenCode ?_
  refine C.seq ?_
  refine C.region ?_
  refine W.move rfl rfl ?_
  refine W.move rfl rfl ?_
  refine W.wants rfl rfl rfl rfl ?_
  refine W.move rfl rfl ?_
  refine W.pickT rfl rfl rfl ?_
  refine W.move rfl rfl ?_
  refine W.wants rfl rfl rfl rfl ?_
  refine W.loadA rfl (hB41e.cells (o := 0)) Try.underlying34 rfl (by rw [List.drop_zero, hl1]; kernel_rfl) rfl ?_
  rw [List.drop_zero]
  refine W.wants rfl rfl rfl rfl ?_
  refine W.loadA rfl (hN8e.cells (o := 0)) Try.underlying34 rfl (by rw [List.drop_zero, hl1]; kernel_rfl) rfl ?_
  rw [List.drop_zero]
  refine W.wants rfl rfl rfl rfl ?_
  refine W.eqlP (ks := noteK) (by kernel_rfl) (by kernel_rfl) rfl rfl (noteC_typed hn1) (noteC_typed hn1) (by kernel_rfl) rfl ?_
  refine W.eqv (bT (rfl)) ?_
  refine W.pickT rfl rfl rfl ?_
  refine W.move rfl rfl ?_
  refine W.wants rfl rfl rfl rfl ?_
  refine W.loadA rfl (hB53e.cells (o := 0)) Try.underlying34 rfl (by rw [List.drop_zero, hl2]; kernel_rfl) rfl ?_
  rw [List.drop_zero]
  refine W.wants rfl rfl rfl rfl ?_
  refine W.loadA rfl (hN9e.cells (o := 0)) Try.underlying34 rfl (by rw [List.drop_zero, hl2]; kernel_rfl) rfl ?_
  rw [List.drop_zero]
  refine W.wants rfl rfl rfl rfl ?_
  refine W.eqlP (ks := noteK) (by kernel_rfl) (by kernel_rfl) rfl rfl (noteC_typed hn2) (noteC_typed hn2) (by kernel_rfl) rfl ?_
  refine W.eqv (bT (rfl)) ?_
  refine W.pickT rfl rfl rfl ?_
  refine W.move rfl rfl ?_
  refine W.wants rfl rfl rfl rfl ?_
  refine W.move rfl rfl ?_
  refine W.wants rfl rfl rfl rfl ?_
  refine W.move rfl rfl ?_
  refine W.wants rfl rfl rfl rfl ?_
  refine W.eqlB rfl rfl Try.underlying4 rfl ?_
  refine W.eqv (v' := .bool true) (by simp) ?_
  refine W.pickT rfl rfl rfl ?_
  refine W.assign rfl rfl ?_
  refine W.nil ?_
  refine At.thenCode ?_
  refine C.ret ?_
  refine At.ret1 Try.results11 rfl ?_
  exact ⟨rfl, Ext.below hXe⟩
end Go.Proofs.Ytkjmllohbohliaa.Law17
