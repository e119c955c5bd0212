/- Package letter's Read of a letter to another. -/
import Derived.Test.YtkjmllohbohliaaLet7
namespace Go.Proofs.Ytkjmllohbohliaa.Let
open Go Go.RowKit Go.Proofs.Ytkjmllohbohliaa.KW Go.Proofs.Ytkjmllohbohliaa.Words Go.Proofs.Ytkjmllohbohliaa.Sha Go.Proofs.Ytkjmllohbohliaa.RSha Go.Proofs.Ytkjmllohbohliaa.Derive Go.Proofs.Ytkjmllohbohliaa.Seal Go.Proofs.Ytkjmllohbohliaa.Grp Go.Proofs.Ytkjmllohbohliaa.Cod Go.Proofs.Ytkjmllohbohliaa.Modp
set_option linter.unusedVariables false
set_option linter.unusedSimpArgs false
set_option maxRecDepth 100000
theorem ReadX_ok (y X : Nat) (k : List UInt8) (i : Int) (m : Nat) (a : Option Addr) (c : Nat) (b : List UInt8) (w : World) (hy : y < 18446744073709551616) (hm : iu 18446744073709551616 i = m) (hb : Bs w a c b) (hkl' : k.length = 32) (hne : k ≠ nameV (timesV 37 y)) :
    Ct Try.prog 29 #[.int .u64 (y : Int), .int .u64 (X : Int), .int .i64 i, .agg (letC k (.slice a b.length c)).toArray] w (fun v w' => v = .tuple #[.agg (noteC zeroNote).toArray, .bool false] ∧ Ext w w') := by
  obtain ⟨K, hK⟩ : ∃ K, K = nameV (timesV 37 y) := ⟨_, rfl⟩
  have hKl : K.length = 32 := by rw [hK]; exact nameV_length _
  rw [← hK] at hne
  refine Ct.enter [(0, .int .u64 (y : Int)), (1, .int .u64 (X : Int)), (2, .int .i64 i), (3, .agg (letC k (.slice a b.length c)).toArray)] Try.func29 rfl rfl rfl rfl ?_
  have hnz := noteC_length zeroNoteOk
  have hkey : ∀ u, ((letC k u).drop 0).take 32 = k.map byteV := fun u => by unfold letC; rw [List.drop_zero, List.take_append_of_le_length (by simp [hkl']), List.take_of_length_le (by simp [hkl'])]
  refine C.seq ?_
  refine C.region ?_
  refine W.box (letC k (.slice a b.length c)) rfl rfl rfl ?_
  intro g7 w7 hg7 hX7 hB7
  refine W.alloc (z := .agg (noteC zeroNote).toArray) (noteC zeroNote) (by kernel_rfl) rfl rfl ?_
  intro g8 w8 hg8 hX8 hB8
  refine W.assign rfl rfl ?_
  refine W.nil ?_
  refine At.thenCode ?_
  refine C.seq ?_
  refine C.region ?_
  refine W.move rfl rfl ?_
  refine W.call Try.call40 rfl (Let.Public_ok _ (by omega) _) rfl ?_
  rintro v16 w16 ⟨rfl, rfl⟩
  refine W.call Try.call36 rfl (Let.Name_ok _ _) rfl ?_
  rintro v17 w17 ⟨rfl, hX17⟩
  rw [← hK]
  refine W.alloc (z := .agg (List.replicate 32 (byteV 0)).toArray) (List.replicate 32 (byteV 0)) (by kernel_rfl) rfl rfl ?_
  intro g10 w10 hg10 hX10 hB10
  refine W.storeA (K.map byteV) rfl rfl hB10 (by rw [List.length_map, hKl]; rfl) (by rw [List.length_map, hKl]; kernel_rfl) (bytes_oneCell _) ?_
  intro w11 hc11 hB11
  have hl8 := hB8.lt
  have hl7 := hB7.lt
  have hs7 := hX7.size
  have hs8 := hX8.size
  have hs17 := hX17.size
  have hX11 : Ext w w11 := (((hX7.ext hX8).ext hX17).ext hX10).news hc11 fun k hk => Or.inr (by omega)
  have hB8a : Bk w11 g8 (noteC zeroNote) := ((hB8.ext hX17).ext hX10).chg hc11 (by omega)
  have hB7a : Bk w11 g7 (letC k (.slice a b.length c)) := (((hB7.ext hX8).ext hX17).ext hX10).chg hc11 (by omega)
  refine W.nil ?_
  refine At.thenCode ?_
  refine C.seq ?_
  refine C.seq ?_
  refine C.region ?_
  refine W.fieldB (off := 0) (size := 32) (t := 23) (Fld.of (by kernel_rfl)) rfl rfl rfl ?_
  refine W.loadA (cs := k.map byteV) rfl (by have := Bk.cellsN (o := 0) (n := 32) hB7a; rwa [hkey] at this) Try.underlying23 rfl (by rw [List.length_map, hkl']; kernel_rfl) rfl ?_
  refine W.loadA rfl (hB11.cells (o := 0)) Try.underlying23 rfl (by rw [List.drop_zero, List.length_map, hKl]; kernel_rfl) rfl ?_
  rw [List.drop_zero]
  refine W.neqKey (a := k) (b := K) (n := 32) Try.underlying23 Try.underlying5 (by kernel_rfl) rfl rfl hkl' hKl (by kernel_rfl) rfl ?_
  refine W.eqv (bT (hne)) ?_
  refine W.nil ?_
  refine At.thenCode ?_
  refine C.condT rfl ?_
  refine C.seq ?_
  refine C.region ?_
  refine W.buildS (fs := _) [(0, 1), (1, 1), (2, 32)] (noteC zeroNote) (noteC zeroNote) Try.underlying34 (by kernel_rfl) (by kernel_rfl) rfl rfl rfl ?_
  refine W.storeA (noteC zeroNote) rfl rfl hB8a rfl (by kernel_rfl) (noteC_one _) ?_
  intro wy hcy hBy
  refine W.assign rfl rfl ?_
  refine W.nil ?_
  refine At.thenCode ?_
  refine C.ret ?_
  refine At.thenRet ?_
  -- RESULT IN A CELL
  refine At.retCT Try.results29 rfl rfl (hBy.cells (o := 0)) Try.underlying34 rfl (by kernel_rfl) ?_
  rw [List.drop_zero]
  exact ⟨rfl, hX11.news hcy fun k hk => Or.inr (by omega)⟩
theorem RReadX_ok (y X : Nat) (k : List UInt8) (i : Int) (m : Nat) (a : Option Addr) (c : Nat) (b : List UInt8) (w : World) (hy : y < 18446744073709551616) (hm : iu 18446744073709551616 i = m) (hb : Bs w a c b) (hkl' : k.length = 32) (hne : k ≠ nameV (timesV 37 y)) :
    Ct Try.prog 30 #[.int .u64 (y : Int), .int .u64 (X : Int), .int .i64 i, .agg (letC k (.slice a b.length c)).toArray] w (fun v w' => v = .tuple #[.agg (noteC zeroNote).toArray, .bool false] ∧ Ext w w') := by
  obtain ⟨K, hK⟩ : ∃ K, K = nameV (timesV 37 y) := ⟨_, rfl⟩
  have hKl : K.length = 32 := by rw [hK]; exact nameV_length _
  rw [← hK] at hne
  refine Ct.enter [(0, .int .u64 (y : Int)), (1, .int .u64 (X : Int)), (2, .int .i64 i), (3, .agg (letC k (.slice a b.length c)).toArray)] Try.func30 rfl rfl rfl rfl ?_
  have hnz := noteC_length zeroNoteOk
  have hkey : ∀ u, ((letC k u).drop 0).take 32 = k.map byteV := fun u => by unfold letC; rw [List.drop_zero, List.take_append_of_le_length (by simp [hkl']), List.take_of_length_le (by simp [hkl'])]
  refine C.seq ?_
  refine C.region ?_
  refine W.box (letC k (.slice a b.length c)) rfl rfl rfl ?_
  intro g7 w7 hg7 hX7 hB7
  refine W.alloc (z := .agg (noteC zeroNote).toArray) (noteC zeroNote) (by kernel_rfl) rfl rfl ?_
  intro g8 w8 hg8 hX8 hB8
  refine W.assign rfl rfl ?_
  refine W.nil ?_
  refine At.thenCode ?_
  refine C.seq ?_
  refine C.region ?_
  refine W.move rfl rfl ?_
  refine W.call Try.call19 rfl (Grp.RBase_ok y (by omega) _) rfl ?_
  rintro v17 w17' ⟨rfl, rfl⟩
  refine W.call Try.call22 rfl (Let.RName_ok _ _) rfl ?_
  rintro v18 w18 ⟨rfl, hX18⟩
  rw [← hK]
  refine W.alloc (z := .agg (List.replicate 32 (byteV 0)).toArray) (List.replicate 32 (byteV 0)) (by kernel_rfl) rfl rfl ?_
  intro g10 w10 hg10 hX10 hB10
  refine W.storeA (K.map byteV) rfl rfl hB10 (by rw [List.length_map, hKl]; rfl) (by rw [List.length_map, hKl]; kernel_rfl) (bytes_oneCell _) ?_
  intro w11 hc11 hB11
  have hl8 := hB8.lt
  have hl7 := hB7.lt
  have hs7 := hX7.size
  have hs8 := hX8.size
  have hs17 := hX18.size
  have hX11 : Ext w w11 := (((hX7.ext hX8).ext hX18).ext hX10).news hc11 fun k hk => Or.inr (by omega)
  have hB8a : Bk w11 g8 (noteC zeroNote) := ((hB8.ext hX18).ext hX10).chg hc11 (by omega)
  have hB7a : Bk w11 g7 (letC k (.slice a b.length c)) := (((hB7.ext hX8).ext hX18).ext hX10).chg hc11 (by omega)
  refine W.nil ?_
  refine At.thenCode ?_
  refine C.seq ?_
  refine C.seq ?_
  refine C.region ?_
  refine W.fieldB (off := 0) (size := 32) (t := 23) (Fld.of (by kernel_rfl)) rfl rfl rfl ?_
  refine W.loadA (cs := k.map byteV) rfl (by have := Bk.cellsN (o := 0) (n := 32) hB7a; rwa [hkey] at this) Try.underlying23 rfl (by rw [List.length_map, hkl']; kernel_rfl) rfl ?_
  refine W.loadA rfl (hB11.cells (o := 0)) Try.underlying23 rfl (by rw [List.drop_zero, List.length_map, hKl]; kernel_rfl) rfl ?_
  rw [List.drop_zero]
  refine W.neqKey (a := k) (b := K) (n := 32) Try.underlying23 Try.underlying5 (by kernel_rfl) rfl rfl hkl' hKl (by kernel_rfl) rfl ?_
  refine W.eqv (bT (hne)) ?_
  refine W.nil ?_
  refine At.thenCode ?_
  refine C.condT rfl ?_
  refine C.seq ?_
  refine C.region ?_
  refine W.buildS (fs := _) [(0, 1), (1, 1), (2, 32)] (noteC zeroNote) (noteC zeroNote) Try.underlying34 (by kernel_rfl) (by kernel_rfl) rfl rfl rfl ?_
  refine W.storeA (noteC zeroNote) rfl rfl hB8a rfl (by kernel_rfl) (noteC_one _) ?_
  intro wy hcy hBy
  refine W.assign rfl rfl ?_
  refine W.nil ?_
  refine At.thenCode ?_
  refine C.ret ?_
  refine At.thenRet ?_
  -- RESULT IN A CELL
  refine At.retCT Try.results30 rfl rfl (hBy.cells (o := 0)) Try.underlying34 rfl (by kernel_rfl) ?_
  rw [List.drop_zero]
  exact ⟨rfl, hX11.news hcy fun k hk => Or.inr (by omega)⟩
end Go.Proofs.Ytkjmllohbohliaa.Let
