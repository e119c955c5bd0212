/- The walk of chapter 17's law on others. -/
import Derived.Test.YtkjmllohbohliaaLaw17c
import Derived.Test.YtkjmllohbohliaaLet8
namespace Go.Proofs.Ytkjmllohbohliaa.Law17
open Go Go.RowKit Go.Proofs.Ytkjmllohbohliaa.KW Go.Proofs.Ytkjmllohbohliaa.Words Go.Proofs.Ytkjmllohbohliaa.Sha Go.Proofs.Ytkjmllohbohliaa.RSha Go.Proofs.Ytkjmllohbohliaa.Derive Go.Proofs.Ytkjmllohbohliaa.Seal Go.Proofs.Ytkjmllohbohliaa.Grp Go.Proofs.Ytkjmllohbohliaa.Cod Go.Proofs.Ytkjmllohbohliaa.Let
set_option linter.unusedVariables false
set_option linter.unusedSimpArgs false
set_option maxRecDepth 100000
def readNF (y X m : Nat) (k b : List UInt8) : NoteD := if k = nameV (timesV 37 y) then readN (betweenV y X k m) k b else zeroNote
def readBF (y X m : Nat) (k b : List UInt8) : Bool := if k = nameV (timesV 37 y) then readB (betweenV y X k m) k b else false
theorem readNF_ok (y X m : Nat) (k b : List UInt8) : NoteOk (readNF y X m k b) := by
  unfold readNF; split
  · exact readN_ok _ _ _
  · exact zeroNoteOk
theorem ReadF_ok (y X : Nat) (k : List UInt8) (i : Int) (m : Nat) (a : Option Addr) (c : Nat) (b : List UInt8) (w : World) (hy : y < 18446744073709551616) (hm : iu 18446744073709551616 i = m) (hb : Bs w a c b) (hl : b.length ≤ 200000) (hk : k.length = 32) :
    Ct Try.prog 29 #[.int .u64 (y : Int), .int .u64 (X : Int), .int .i64 i, .agg (letC k (.slice a b.length c)).toArray] w (fun v w' => v = .tuple #[.agg (noteC (readNF y X m k b)).toArray, .bool (readBF y X m k b)] ∧ Ext w w') := by
  by_cases h : k = nameV (timesV 37 y)
  · have := Let.ReadG_ok y X i m a c b w hy hm hb hl
    rw [← h] at this
    unfold readNF readBF
    rw [if_pos h, if_pos h]
    exact this
  · unfold readNF readBF
    rw [if_neg h, if_neg h]
    exact Let.ReadX_ok y X k i m a c b w hy hm hb hk h
theorem RReadF_ok (y X : Nat) (k : List UInt8) (i : Int) (m : Nat) (a : Option Addr) (c : Nat) (b : List UInt8) (w : World) (hy : y < 18446744073709551616) (hm : iu 18446744073709551616 i = m) (hb : Bs w a c b) (hl : b.length ≤ 200000) (hk : k.length = 32) :
    Ct Try.prog 30 #[.int .u64 (y : Int), .int .u64 (X : Int), .int .i64 i, .agg (letC k (.slice a b.length c)).toArray] w (fun v w' => v = .tuple #[.agg (noteC (readNF y X m k b)).toArray, .bool (readBF y X m k b)] ∧ Ext w w') := by
  by_cases h : k = nameV (timesV 37 y)
  · have := Let.RRead_ok y X i m a c b w hy hm hb hl
    rw [← h] at this
    unfold readNF readBF
    rw [if_pos h, if_pos h]
    exact this
  · unfold readNF readBF
    rw [if_neg h, if_neg h]
    exact Let.RReadX_ok y X k i m a c b w hy hm hb hk h
theorem LetterOthers_walk (x y z : Nat) (i j : Int) (n : NoteD) (w : World) (hx : x < 18446744073709551616) (hy : y < 18446744073709551616) (hz : z < 18446744073709551616) (hi : -9223372036854775808 ≤ i ∧ i ≤ 9223372036854775807) (hj : -9223372036854775808 ≤ j ∧ j ≤ 9223372036854775807) (hn : NoteOk n) :
    Ct Try.prog 10 #[.int .u64 (x : Int), .int .u64 (y : Int), .int .u64 (z : Int), .int .i64 i, .int .i64 j, .agg (noteC n).toArray] w (LawOk w) := by
  refine Ct.enter [(0, .int .u64 (x : Int)), (1, .int .u64 (y : Int)), (2, .int .u64 (z : Int)), (3, .int .i64 i), (4, .int .i64 j), (5, .agg (noteC n).toArray)] Try.func10 rfl rfl rfl rfl ?_
  have hl1 := noteC_length hn
  obtain ⟨m, hm⟩ : ∃ m, iu 18446744073709551616 i = m := ⟨_, rfl⟩
  obtain ⟨q, hq⟩ : ∃ q, iu 18446744073709551616 j = q := ⟨_, rfl⟩
  have ht1 := talkB_length (x := x) (y := timesV 37 y) (m := m) hn
  have hK := nameV_length (timesV 37 y)
  obtain ⟨B, hB⟩ : ∃ B, B = talkB x (timesV 37 y) m n := ⟨_, rfl⟩
  rw [← hB] at ht1
  obtain ⟨K, hKe⟩ : ∃ K, K = nameV (timesV 37 y) := ⟨_, rfl⟩
  rw [← hKe] at hK
  obtain ⟨N1, hN1⟩ : ∃ N, N = readNF z (timesV 37 x) m K B := ⟨_, rfl⟩
  obtain ⟨r1, hr1⟩ : ∃ r, r = readBF z (timesV 37 x) m K B := ⟨_, rfl⟩
  have hNo1 : NoteOk N1 := by rw [hN1]; exact readNF_ok _ _ _ _ _
  have hNl1 := noteC_length hNo1
  obtain ⟨N2, hN2⟩ : ∃ N, N = readNF y (timesV 37 z) m K B := ⟨_, rfl⟩
  obtain ⟨r2, hr2⟩ : ∃ r, r = readBF y (timesV 37 z) m K B := ⟨_, rfl⟩
  have hNo2 : NoteOk N2 := by rw [hN2]; exact readNF_ok _ _ _ _ _
  have hNl2 := noteC_length hNo2
  obtain ⟨N3, hN3⟩ : ∃ N, N = readNF y (timesV 37 x) q K B := ⟨_, rfl⟩
  obtain ⟨r3, hr3⟩ : ∃ r, r = readBF y (timesV 37 x) q K B := ⟨_, rfl⟩
  have hNo3 : NoteOk N3 := by rw [hN3]; exact readNF_ok _ _ _ _ _
  have hNl3 := noteC_length hNo3
  refine C.seq ?_
  refine C.region ?_
  refine W.box (noteC n) rfl rfl rfl ?_
  intro g11 w11 hg11 hX11 hN11
  refine W.assign rfl rfl ?_
  refine W.nil ?_
  refine At.thenCode ?_
  refine C.seq ?_
  refine C.region ?_
  refine W.call Try.call17 rfl (Law17.alive_ok _) rfl ?_
  rintro v30 w30 ⟨rfl, hX30⟩
  have hXa := hX11.ext hX30
  have hN11a := hN11.ext hX30
  refine W.assign rfl rfl ?_
  refine W.nil ?_
  refine At.thenCode ?_
  refine C.seq ?_
  refine C.seq ?_
  refine C.region ?_
  refine W.move rfl rfl ?_
  first | refine W.notD rfl rfl ?_ | refine W.notB rfl rfl ?_
  refine W.eqv (v' := .bool false) (rfl) ?_
  refine W.nil ?_
  refine At.thenCode ?_
  refine C.condF rfl ?_
  refine C.skip ?_
  refine At.thenCode ?_
  refine C.seq ?_
  refine C.region ?_
  refine W.move rfl rfl ?_
  refine W.call Try.call19 rfl (Grp.RBase_ok x (by omega) _) rfl ?_
  rintro v35 w35 ⟨rfl, rfl⟩
  refine W.assign rfl rfl ?_
  refine W.nil ?_
  refine At.thenCode ?_
  refine C.seq ?_
  refine C.region ?_
  refine W.move rfl rfl ?_
  refine W.call Try.call19 rfl (Grp.RBase_ok y (by omega) _) rfl ?_
  rintro v37 w37 ⟨rfl, rfl⟩
  refine W.assign rfl rfl ?_
  refine W.nil ?_
  refine At.thenCode ?_
  refine C.seq ?_
  refine C.region ?_
  refine W.move rfl rfl ?_
  refine W.call Try.call19 rfl (Grp.RBase_ok z (by omega) _) rfl ?_
  rintro v39 w39 ⟨rfl, rfl⟩
  refine W.assign rfl rfl ?_
  refine W.nil ?_
  refine At.thenCode ?_
  refine C.seq ?_
  refine C.region ?_
  refine W.move rfl rfl ?_
  refine W.move rfl rfl ?_
  refine W.move rfl rfl ?_
  refine W.loadA rfl (hN11a.cells (o := 0)) Try.underlying34 rfl (by rw [List.drop_zero, hl1]; kernel_rfl) rfl ?_
  rw [List.drop_zero]
  refine W.call Try.call18 rfl (Let.Talk_ok x (timesV 37 y) i m n _ hx hm hn) rfl ?_
  rintro v44 w44 ⟨⟨a44, c44, rfl, hb44, _⟩, hX44⟩
  rw [← hB, ← hKe]
  rw [← hB] at hb44
  refine W.alloc (z := .agg zeroLetC.toArray) zeroLetC (by kernel_rfl) rfl rfl ?_
  intro g17 w17 hg17 hX17 hB17
  refine W.storeA (letC K (.slice a44 B.length c44)) rfl rfl hB17 (by rw [letC_length hK]; rfl) (by rw [letC_length hK]; kernel_rfl) (letC_one _ _ _ _) ?_
  intro u0 hc0 hL0
  have hY0 : Ext w44 u0 := hX17.news hc0 fun k hk => Or.inr (by omega)
  have hXb0 := (hXa.ext hX44).ext hY0
  have hb0 := hb44.ext hY0
  refine W.nil ?_
  refine At.thenCode ?_
  refine C.seq ?_
  refine C.region ?_
  refine W.move rfl rfl ?_
  refine W.move rfl rfl ?_
  refine W.move rfl rfl ?_
  refine W.loadA rfl (hL0.cells (o := 0)) Try.underlying36 rfl (by rw [List.drop_zero, letC_length hK]; kernel_rfl) rfl ?_
  rw [List.drop_zero]
  refine W.call Try.call29 rfl (Law17.ReadF_ok z (timesV 37 x) K i m a44 c44 B _ hz hm hb0 (by rw [ht1]; decide) hK) rfl ?_
  rintro v50 w50 ⟨rfl, hX50⟩
  rw [← hN1, ← hr1]
  refine W.move rfl rfl ?_
  refine W.extract rfl rfl rfl ?_
  refine W.extract rfl rfl rfl ?_
  refine W.alloc (z := .agg (noteC zeroNote).toArray) (noteC zeroNote) (by kernel_rfl) rfl rfl ?_
  intro g18 w18 hg18 hX18 hB18
  refine W.storeA (noteC N1) rfl rfl hB18 (by rw [hNl1]; rfl) (by rw [hNl1]; kernel_rfl) (noteC_one _) ?_
  intro u1 hc1 hM1
  have hY1 : Ext u0 u1 := hX50.ext (hX18.news hc1 fun k hk => Or.inr (by omega))
  have hXb1 := hXb0.ext hY1
  have hb1 := hb0.ext hY1
  have hL1 := hL0.ext hY1
  refine W.assign rfl rfl ?_
  refine W.nil ?_
  refine At.thenCode ?_
  refine C.seq ?_
  refine C.region ?_
  refine W.move rfl rfl ?_
  refine W.move rfl rfl ?_
  refine W.move rfl rfl ?_
  refine W.loadA rfl (hL1.cells (o := 0)) Try.underlying36 rfl (by rw [List.drop_zero, letC_length hK]; kernel_rfl) rfl ?_
  rw [List.drop_zero]
  refine W.call Try.call30 rfl (Law17.RReadF_ok z (timesV 37 x) K i m a44 c44 B _ hz hm hb1 (by rw [ht1]; decide) hK) rfl ?_
  rintro v58 w58 ⟨rfl, hX58⟩
  rw [← hN1, ← hr1]
  refine W.move rfl rfl ?_
  refine W.extract rfl rfl rfl ?_
  refine W.extract rfl rfl rfl ?_
  refine W.alloc (z := .agg (noteC zeroNote).toArray) (noteC zeroNote) (by kernel_rfl) rfl rfl ?_
  intro g20 w20 hg20 hX20 hB20
  refine W.storeA (noteC N1) rfl rfl hB20 (by rw [hNl1]; rfl) (by rw [hNl1]; kernel_rfl) (noteC_one _) ?_
  intro u2 hc2 hM2
  have hY2 : Ext u1 u2 := hX58.ext (hX20.news hc2 fun k hk => Or.inr (by omega))
  have hXb2 := hXb1.ext hY2
  have hb2 := hb1.ext hY2
  have hL2 := hL1.ext hY2
  refine W.assign rfl rfl ?_
  refine W.nil ?_
  refine At.thenCode ?_
  refine C.seq ?_
  refine C.region ?_
  refine W.move rfl rfl ?_
  refine W.move rfl rfl ?_
  refine W.move rfl rfl ?_
  refine W.loadA rfl (hL2.cells (o := 0)) Try.underlying36 rfl (by rw [List.drop_zero, letC_length hK]; kernel_rfl) rfl ?_
  rw [List.drop_zero]
  refine W.call Try.call29 rfl (Law17.ReadF_ok y (timesV 37 z) K i m a44 c44 B _ hy hm hb2 (by rw [ht1]; decide) hK) rfl ?_
  rintro v66 w66 ⟨rfl, hX66⟩
  rw [← hN2, ← hr2]
  refine W.move rfl rfl ?_
  refine W.extract rfl rfl rfl ?_
  refine W.extract rfl rfl rfl ?_
  refine W.alloc (z := .agg (noteC zeroNote).toArray) (noteC zeroNote) (by kernel_rfl) rfl rfl ?_
  intro g22 w22 hg22 hX22 hB22
  refine W.storeA (noteC N2) rfl rfl hB22 (by rw [hNl2]; rfl) (by rw [hNl2]; kernel_rfl) (noteC_one _) ?_
  intro u3 hc3 hM3
  have hY3 : Ext u2 u3 := hX66.ext (hX22.news hc3 fun k hk => Or.inr (by omega))
  have hXb3 := hXb2.ext hY3
  have hb3 := hb2.ext hY3
  have hL3 := hL2.ext hY3
  refine W.assign rfl rfl ?_
  refine W.nil ?_
  refine At.thenCode ?_
  refine C.seq ?_
  refine C.region ?_
  refine W.move rfl rfl ?_
  refine W.move rfl rfl ?_
  refine W.move rfl rfl ?_
  refine W.loadA rfl (hL3.cells (o := 0)) Try.underlying36 rfl (by rw [List.drop_zero, letC_length hK]; kernel_rfl) rfl ?_
  rw [List.drop_zero]
  refine W.call Try.call30 rfl (Law17.RReadF_ok y (timesV 37 z) K i m a44 c44 B _ hy hm hb3 (by rw [ht1]; decide) hK) rfl ?_
  rintro v74 w74 ⟨rfl, hX74⟩
  rw [← hN2, ← hr2]
  refine W.move rfl rfl ?_
  refine W.extract rfl rfl rfl ?_
  refine W.extract rfl rfl rfl ?_
  refine W.alloc (z := .agg (noteC zeroNote).toArray) (noteC zeroNote) (by kernel_rfl) rfl rfl ?_
  intro g24 w24 hg24 hX24 hB24
  refine W.storeA (noteC N2) rfl rfl hB24 (by rw [hNl2]; rfl) (by rw [hNl2]; kernel_rfl) (noteC_one _) ?_
  intro u4 hc4 hM4
  have hY4 : Ext u3 u4 := hX74.ext (hX24.news hc4 fun k hk => Or.inr (by omega))
  have hXb4 := hXb3.ext hY4
  have hb4 := hb3.ext hY4
  have hL4 := hL3.ext hY4
  refine W.assign rfl rfl ?_
  refine W.nil ?_
  refine At.thenCode ?_
  refine C.seq ?_
  refine C.region ?_
  refine W.move rfl rfl ?_
  refine W.move rfl rfl ?_
  refine W.move rfl rfl ?_
  refine W.loadA rfl (hL4.cells (o := 0)) Try.underlying36 rfl (by rw [List.drop_zero, letC_length hK]; kernel_rfl) rfl ?_
  rw [List.drop_zero]
  refine W.call Try.call29 rfl (Law17.ReadF_ok y (timesV 37 x) K j q a44 c44 B _ hy hq hb4 (by rw [ht1]; decide) hK) rfl ?_
  rintro v82 w82 ⟨rfl, hX82⟩
  rw [← hN3, ← hr3]
  refine W.move rfl rfl ?_
  refine W.extract rfl rfl rfl ?_
  refine W.extract rfl rfl rfl ?_
  refine W.alloc (z := .agg (noteC zeroNote).toArray) (noteC zeroNote) (by kernel_rfl) rfl rfl ?_
  intro g26 w26 hg26 hX26 hB26
  refine W.storeA (noteC N3) rfl rfl hB26 (by rw [hNl3]; rfl) (by rw [hNl3]; kernel_rfl) (noteC_one _) ?_
  intro u5 hc5 hM5
  have hY5 : Ext u4 u5 := hX82.ext (hX26.news hc5 fun k hk => Or.inr (by omega))
  have hXb5 := hXb4.ext hY5
  have hb5 := hb4.ext hY5
  have hL5 := hL4.ext hY5
  refine W.assign rfl rfl ?_
  refine W.nil ?_
  refine At.thenCode ?_
  refine C.seq ?_
  refine C.region ?_
  refine W.move rfl rfl ?_
  refine W.move rfl rfl ?_
  refine W.move rfl rfl ?_
  refine W.loadA rfl (hL5.cells (o := 0)) Try.underlying36 rfl (by rw [List.drop_zero, letC_length hK]; kernel_rfl) rfl ?_
  rw [List.drop_zero]
  refine W.call Try.call30 rfl (Law17.RReadF_ok y (timesV 37 x) K j q a44 c44 B _ hy hq hb5 (by rw [ht1]; decide) hK) rfl ?_
  rintro v90 w90 ⟨rfl, hX90⟩
  rw [← hN3, ← hr3]
  refine W.move rfl rfl ?_
  refine W.extract rfl rfl rfl ?_
  refine W.extract rfl rfl rfl ?_
  refine W.alloc (z := .agg (noteC zeroNote).toArray) (noteC zeroNote) (by kernel_rfl) rfl rfl ?_
  intro g28 w28 hg28 hX28 hB28
  refine W.storeA (noteC N3) rfl rfl hB28 (by rw [hNl3]; rfl) (by rw [hNl3]; kernel_rfl) (noteC_one _) ?_
  intro u6 hc6 hM6
  have hY6 : Ext u5 u6 := hX90.ext (hX28.news hc6 fun k hk => Or.inr (by omega))
  have hXb6 := hXb5.ext hY6
  have hb6 := hb5.ext hY6
  have hL6 := hL5.ext hY6
  refine W.assign rfl rfl ?_
  refine W.nil ?_
  refine At.thenCode ?_
  refine C.seq ?_
  refine C.region ?_
  have hZ1 := (((((hM1.ext hY2).ext hY3).ext hY4).ext hY5).ext hY6)
  have hZ2 := ((((hM2.ext hY3).ext hY4).ext hY5).ext hY6)
  have hZ3 := (((hM3.ext hY4).ext hY5).ext hY6)
  have hZ4 := ((hM4.ext hY5).ext hY6)
  have hZ5 := (hM5.ext hY6)
  have hZ6 := hM6
  refine W.loadA rfl (hZ1.cells (o := 0)) Try.underlying34 rfl (by rw [List.drop_zero, hNl1]; kernel_rfl) rfl ?_
  rw [List.drop_zero]
  refine W.loadA rfl (hZ2.cells (o := 0)) Try.underlying34 rfl (by rw [List.drop_zero, hNl1]; kernel_rfl) rfl ?_
  rw [List.drop_zero]
  refine W.eqlP (ks := noteK) (by kernel_rfl) (by kernel_rfl) rfl rfl (noteC_typed hNo1) (noteC_typed hNo1) (by kernel_rfl) rfl ?_
  refine W.eqv (bT (rfl)) ?_
  refine W.move rfl rfl ?_
  refine W.wants rfl rfl rfl rfl ?_
  refine W.move rfl rfl ?_
  refine W.wants rfl rfl rfl rfl ?_
  refine W.move rfl rfl ?_
  refine W.wants rfl rfl rfl rfl ?_
  refine W.eqlB rfl rfl Try.underlying4 rfl ?_
  refine W.eqv (v' := .bool true) (by simp) ?_
  refine W.pickT rfl rfl rfl ?_
  refine W.move rfl rfl ?_
  refine W.wants rfl rfl rfl rfl ?_
  refine W.loadA rfl (hZ3.cells (o := 0)) Try.underlying34 rfl (by rw [List.drop_zero, hNl2]; kernel_rfl) rfl ?_
  rw [List.drop_zero]
  refine W.wants rfl rfl rfl rfl ?_
  refine W.loadA rfl (hZ4.cells (o := 0)) Try.underlying34 rfl (by rw [List.drop_zero, hNl2]; kernel_rfl) rfl ?_
  rw [List.drop_zero]
  refine W.wants rfl rfl rfl rfl ?_
  refine W.eqlP (ks := noteK) (by kernel_rfl) (by kernel_rfl) rfl rfl (noteC_typed hNo2) (noteC_typed hNo2) (by kernel_rfl) rfl ?_
  refine W.eqv (bT (rfl)) ?_
  refine W.pickT rfl rfl rfl ?_
  refine W.move rfl rfl ?_
  refine W.wants rfl rfl rfl rfl ?_
  refine W.move rfl rfl ?_
  refine W.wants rfl rfl rfl rfl ?_
  refine W.move rfl rfl ?_
  refine W.wants rfl rfl rfl rfl ?_
  refine W.eqlB rfl rfl Try.underlying4 rfl ?_
  refine W.eqv (v' := .bool true) (by simp) ?_
  refine W.pickT rfl rfl rfl ?_
  refine W.move rfl rfl ?_
  refine W.wants rfl rfl rfl rfl ?_
  refine W.loadA rfl (hZ5.cells (o := 0)) Try.underlying34 rfl (by rw [List.drop_zero, hNl3]; kernel_rfl) rfl ?_
  rw [List.drop_zero]
  refine W.wants rfl rfl rfl rfl ?_
  refine W.loadA rfl (hZ6.cells (o := 0)) Try.underlying34 rfl (by rw [List.drop_zero, hNl3]; kernel_rfl) rfl ?_
  rw [List.drop_zero]
  refine W.wants rfl rfl rfl rfl ?_
  refine W.eqlP (ks := noteK) (by kernel_rfl) (by kernel_rfl) rfl rfl (noteC_typed hNo3) (noteC_typed hNo3) (by kernel_rfl) rfl ?_
  refine W.eqv (bT (rfl)) ?_
  refine W.pickT rfl rfl rfl ?_
  refine W.move rfl rfl ?_
  refine W.wants rfl rfl rfl rfl ?_
  refine W.move rfl rfl ?_
  refine W.wants rfl rfl rfl rfl ?_
  refine W.move rfl rfl ?_
  refine W.wants rfl rfl rfl rfl ?_
  refine W.eqlB rfl rfl Try.underlying4 rfl ?_
  refine W.eqv (v' := .bool true) (by simp) ?_
  refine W.pickT rfl rfl rfl ?_
  refine W.assign rfl rfl ?_
  refine W.nil ?_
  refine At.thenCode ?_
  refine C.ret ?_
  refine At.ret1 Try.results10 rfl ?_
  exact ⟨rfl, Ext.below hXb6⟩
end Go.Proofs.Ytkjmllohbohliaa.Law17
