/- Package letter's Read of a letter to the reader. -/
import Derived.Test.YtkjmllohbohliaaLet6
import Derived.Test.YtkjmllohbohliaaCodY
namespace Go.Proofs.Ytkjmllohbohliaa.Let
open Go Go.RowKit Go.Proofs.Ytkjmllohbohliaa.KW Go.Proofs.Ytkjmllohbohliaa.Words Go.Proofs.Ytkjmllohbohliaa.Sha Go.Proofs.Ytkjmllohbohliaa.RSha Go.Proofs.Ytkjmllohbohliaa.Derive Go.Proofs.Ytkjmllohbohliaa.Seal Go.Proofs.Ytkjmllohbohliaa.Grp Go.Proofs.Ytkjmllohbohliaa.Cod Go.Proofs.Ytkjmllohbohliaa.Modp
set_option linter.unusedVariables false
set_option linter.unusedSimpArgs false
set_option maxRecDepth 100000
def readN (T K b : List UInt8) : NoteD := if openOk T K b then noteR (openV T K b) else zeroNote
def readB (T K b : List UInt8) : Bool := decide (openOk T K b) && decide (noteRE (openV T K b) = 0)
theorem openV_le (T K b : List UInt8) : (openV T K b).length ≤ b.length := by
  unfold openV; split
  · rw [turnV_length, List.length_take]; omega
  · exact Nat.zero_le _
theorem ReadG_ok (y X : Nat) (i : Int) (m : Nat) (a : Option Addr) (c : Nat) (b : List UInt8) (w : World) (hy : y < 18446744073709551616) (hm : iu 18446744073709551616 i = m) (hb : Bs w a c b) (hl : b.length ≤ 200000) :
    Ct Try.prog 29 #[.int .u64 (y : Int), .int .u64 (X : Int), .int .i64 i, .agg (letC (nameV (timesV 37 y)) (.slice a b.length c)).toArray] w (fun v w' => v = .tuple #[.agg (noteC (readN (betweenV y X (nameV (timesV 37 y)) m) (nameV (timesV 37 y)) b)).toArray, .bool (readB (betweenV y X (nameV (timesV 37 y)) m) (nameV (timesV 37 y)) b)] ∧ Ext w w') := by
  obtain ⟨K, hK⟩ : ∃ K, K = nameV (timesV 37 y) := ⟨_, rfl⟩
  have hKl : K.length = 32 := by rw [hK]; exact nameV_length _
  rw [← hK]
  obtain ⟨T, hT⟩ : ∃ T, T = betweenV y X K m := ⟨_, rfl⟩
  have hTl : T.length = 32 := by rw [hT]; exact keyD_length _ _
  rw [← hT]
  obtain ⟨p, hp⟩ : ∃ p, p = openV T K b := ⟨_, rfl⟩
  obtain ⟨q, hq⟩ : ∃ q, q = decide (openOk T K b) := ⟨_, rfl⟩
  have hpl : p.length ≤ b.length := by rw [hp]; exact openV_le _ _ _
  refine Ct.enter [(0, .int .u64 (y : Int)), (1, .int .u64 (X : Int)), (2, .int .i64 i), (3, .agg (letC K (.slice a b.length c)).toArray)] Try.func29 rfl rfl rfl rfl ?_
  have hno := noteR_ok p
  have hnl := noteC_length hno
  have hnz := noteC_length zeroNoteOk
  have hkey : ∀ u, ((letC K u).drop 0).take 32 = K.map byteV := fun u => by unfold letC; rw [List.drop_zero, List.take_append_of_le_length (by simp [hKl]), List.take_of_length_le (by simp [hKl])]
  refine C.seq ?_
  refine C.region ?_
  refine W.box (letC K (.slice a b.length c)) rfl rfl rfl ?_
  intro g7 w7 hg7 hX7 hB7
  refine W.alloc (z := .agg (noteC zeroNote).toArray) (noteC zeroNote) (by kernel_rfl) rfl rfl ?_
  intro g8 w8 hg8 hX8 hB8
  refine W.assign rfl rfl ?_
  refine W.nil ?_
  refine At.thenCode ?_
  refine C.seq ?_
  refine C.region ?_
  refine W.move rfl rfl ?_
  refine W.call Try.call40 rfl (Let.Public_ok _ (by omega) _) rfl ?_
  rintro v16 w16 ⟨rfl, rfl⟩
  refine W.call Try.call36 rfl (Let.Name_ok _ _) rfl ?_
  rintro v17 w17 ⟨rfl, hX17⟩
  rw [← hK]
  refine W.alloc (z := .agg (List.replicate 32 (byteV 0)).toArray) (List.replicate 32 (byteV 0)) (by kernel_rfl) rfl rfl ?_
  intro g10 w10 hg10 hX10 hB10
  refine W.storeA (K.map byteV) rfl rfl hB10 (by rw [List.length_map, hKl]; rfl) (by rw [List.length_map, hKl]; kernel_rfl) (bytes_oneCell _) ?_
  intro w11 hc11 hB11
  have hl8 := hB8.lt
  have hl7 := hB7.lt
  have hs7 := hX7.size
  have hs8 := hX8.size
  have hs17 := hX17.size
  have hX11 : Ext w w11 := (((hX7.ext hX8).ext hX17).ext hX10).news hc11 fun k hk => Or.inr (by omega)
  have hB8a : Bk w11 g8 (noteC zeroNote) := ((hB8.ext hX17).ext hX10).chg hc11 (by omega)
  have hB7a : Bk w11 g7 (letC K (.slice a b.length c)) := (((hB7.ext hX8).ext hX17).ext hX10).chg hc11 (by omega)
  refine W.nil ?_
  refine At.thenCode ?_
  refine C.seq ?_
  refine C.seq ?_
  refine C.region ?_
  refine W.fieldB (off := 0) (size := 32) (t := 23) (Fld.of (by kernel_rfl)) rfl rfl rfl ?_
  refine W.loadA (cs := K.map byteV) rfl (by have := Bk.cellsN (o := 0) (n := 32) hB7a; rwa [hkey] at this) Try.underlying23 rfl (by rw [List.length_map, hKl]; kernel_rfl) rfl ?_
  refine W.loadA rfl (hB11.cells (o := 0)) Try.underlying23 rfl (by rw [List.drop_zero, List.length_map, hKl]; kernel_rfl) rfl ?_
  rw [List.drop_zero]
  refine W.neqKey (a := K) (b := K) (n := 32) Try.underlying23 Try.underlying5 (by kernel_rfl) rfl rfl hKl hKl (by kernel_rfl) rfl ?_
  refine W.eqv (bF (fun h => h rfl)) ?_
  refine W.nil ?_
  refine At.thenCode ?_
  refine C.condF rfl ?_
  refine C.skip ?_
  refine At.thenCode ?_
  refine C.seq ?_
  refine C.regionAny 14 ((fun v w => v = .int .u64 (y : Int)) :: (fun v w => v = .int .u64 (X : Int)) :: (fun v w => v = keyV K) :: (fun v w => v = .int .i64 i) :: (fun v w => v = keyV T) :: (fun v w => v = .slice (some ⟨g10, 0, none⟩) 32 32) :: (fun v w => v = .pointer (some ⟨g7, 32, none⟩)) :: (fun v w => v = .slice a b.length c) :: (fun v w => ∃ ao c', v = .tuple #[.slice ao p.length c', .bool q] ∧ Bs w ao c' p) :: (fun v w => ∃ ao c', v = .tuple #[.slice ao p.length c', .bool q] ∧ Bs w ao c' p) :: (fun v w => Rep w v p) :: (fun v w => v = .bool q) :: (fun v w => Rep w v p) :: (fun v w => v = .bool q) :: []) [(0, .int .u64 (y : Int)), (1, .int .u64 (X : Int)), (2, .int .i64 i), (7, .pointer (some ⟨g7, 0, none⟩)), (8, .pointer (some ⟨g8, 0, none⟩)), (10, .pointer (some ⟨g10, 0, none⟩))] [] (Sub.cons (rfl) (Sub.cons (rfl) (Sub.cons (rfl) (Sub.cons (rfl) (Sub.cons (rfl) (Sub.cons (rfl) (Sub.nil))))))) (Sub.nil) (Sub.cons (rfl) (Sub.cons (rfl) (Sub.cons (rfl) (Sub.cons (rfl) (Sub.cons (rfl) (Sub.cons (rfl) (Sub.nil))))))) (by kernel_rfl) rfl rfl rfl (And.intro (fun _ _ _ h _ => h) (And.intro (fun _ _ _ h _ => h) (And.intro (fun _ _ _ h _ => h) (And.intro (fun _ _ _ h _ => h) (And.intro (fun _ _ _ h _ => h) (And.intro (fun _ _ _ h _ => h) (And.intro (fun _ _ _ h _ => h) (And.intro (fun _ _ _ h _ => h) (And.intro (fun _ _ _ ⟨ao, c', e, h⟩ g => ⟨ao, c', e, Sl.ext h g⟩) (And.intro (fun _ _ _ ⟨ao, c', e, h⟩ g => ⟨ao, c', e, Sl.ext h g⟩) (And.intro (fun _ _ _ h g => Rep.ext h g) (And.intro (fun _ _ _ h _ => h) (And.intro (fun _ _ _ h g => Rep.ext h g) (And.intro (fun _ _ _ h _ => h) (trivial))))))))))))))) ?_ ?_
  · refine And.intro ?_ ?_
    · intro L_ wr hX_ hs_ hf_ hd_
      refine W.step [(0, _)] (Sub.cons (hs_ _ _ rfl) (Sub.refl _)) ?_
      refine W.move rfl rfl ?_
      refine W.nil ?_
      exact At.step (Ext.refl _) rfl
    refine And.intro ?_ ?_
    · intro L_ wr hX_ hs_ hf_ hd_
      refine W.step [(1, _)] (Sub.cons (hs_ _ _ rfl) (Sub.refl _)) ?_
      refine W.move rfl rfl ?_
      refine W.nil ?_
      exact At.step (Ext.refl _) rfl
    refine And.intro ?_ ?_
    · intro L_ wr hX_ hs_ hf_ hd_
      refine W.step [(10, _)] (Sub.cons (hs_ _ _ rfl) (Sub.refl _)) ?_
      refine W.loadA rfl ((hB11.ext hX_).cells (o := 0)) Try.underlying23 rfl (by rw [List.drop_zero, List.length_map, hKl]; kernel_rfl) rfl ?_
      rw [List.drop_zero]
      refine W.nil ?_
      exact At.step (Ext.refl _) rfl
    refine And.intro ?_ ?_
    · intro L_ wr hX_ hs_ hf_ hd_
      refine W.step [(2, _)] (Sub.cons (hs_ _ _ rfl) (Sub.refl _)) ?_
      refine W.move rfl rfl ?_
      refine W.nil ?_
      exact At.step (Ext.refl _) rfl
    refine And.intro ?_ ?_
    · intro L_ wr hX_ hs_ hf_ hd_
      obtain ⟨v0, e0, r0⟩ := hd_ 0 rfl
      obtain rfl : (.int .u64 (y : Int) : Value) = v0 := Eq.symm r0
      obtain ⟨v1, e1, r1⟩ := hd_ 1 rfl
      obtain rfl : (.int .u64 (X : Int) : Value) = v1 := Eq.symm r1
      obtain ⟨v2, e2, r2⟩ := hd_ 2 rfl
      obtain rfl : (keyV K : Value) = v2 := Eq.symm r2
      obtain ⟨v3, e3, r3⟩ := hd_ 3 rfl
      obtain rfl : (.int .i64 i : Value) = v3 := Eq.symm r3
      refine W.step [(24, _), (25, _), (26, _), (27, _)] (Sub.cons (e0 _ rfl) (Sub.cons (e1 _ rfl) (Sub.cons (e2 _ rfl) (Sub.cons (e3 _ rfl) (Sub.refl _))))) ?_
      refine W.call Try.call37 rfl (Let.between_ok y X K i m _ hy hKl hm) rfl ?_
      rintro v28 w28 ⟨rfl, hX28⟩
      rw [← hT]
      refine W.nil ?_
      exact At.step hX28 rfl
    refine And.intro ?_ ?_
    · intro L_ wr hX_ hs_ hf_ hd_
      refine W.step [(10, _)] (Sub.cons (hs_ _ _ rfl) (Sub.refl _)) ?_
      refine W.sliceA X8 Try.underlying23 rfl rfl ?_
      refine W.nil ?_
      exact At.step (Ext.refl _) rfl
    refine And.intro ?_ ?_
    · intro L_ wr hX_ hs_ hf_ hd_
      refine W.step [(7, _)] (Sub.cons (hs_ _ _ rfl) (Sub.refl _)) ?_
      refine W.fieldB (off := 32) (size := 1) (t := 24) (Fld.of (by kernel_rfl)) rfl rfl rfl ?_
      refine W.nil ?_
      exact At.step (Ext.refl _) rfl
    refine And.intro ?_ ?_
    · intro L_ wr hX_ hs_ hf_ hd_
      obtain ⟨v6, e6, r6⟩ := hd_ 6 rfl
      obtain rfl : (.pointer (some ⟨g7, 32, none⟩) : Value) = v6 := Eq.symm r6
      refine W.step [(30, _)] (Sub.cons (e6 _ rfl) (Sub.refl _)) ?_
      refine W.loadB (v := .slice a b.length c) rfl Try.underlying24 rfl (hB7a.ext hX_) (letC_get hKl _) rfl ?_
      refine W.nil ?_
      exact At.step (Ext.refl _) rfl
    refine And.intro ?_ ?_
    · intro L_ wr hX_ hs_ hf_ hd_
      obtain ⟨v4, e4, r4⟩ := hd_ 4 rfl
      obtain rfl : (keyV T : Value) = v4 := Eq.symm r4
      obtain ⟨v5, e5, r5⟩ := hd_ 5 rfl
      obtain rfl : (.slice (some ⟨g10, 0, none⟩) 32 32 : Value) = v5 := Eq.symm r5
      obtain ⟨v7, e7, r7⟩ := hd_ 7 rfl
      obtain rfl : (.slice a b.length c : Value) = v7 := Eq.symm r7
      refine W.step [(28, _), (29, _), (31, _)] (Sub.cons (e4 _ rfl) (Sub.cons (e5 _ rfl) (Sub.cons (e7 _ rfl) (Sub.refl _)))) ?_
      have hs29 : Bs wr (some ⟨g10, 0, none⟩) 32 K := by
        have := Bk.bs (o := 0) (xs := K) (hB11.ext hX_) (by rw [List.drop_zero, List.take_of_length_le (by simp)])
        rwa [hKl] at this
      have hop' := Seal.Open_ok T (some ⟨g10, 0, none⟩) 32 K a c b wr hTl hs29 ((hb.ext hX11).ext hX_) (by omega) (by omega)
      rw [hKl] at hop'
      refine W.call Try.call14 rfl hop' rfl ?_
      rintro v32 w32 ⟨⟨a32, c32, rfl, hS32, _⟩, hX32⟩
      rw [← hp] at hS32 ⊢
      rw [← hq]
      refine W.nil ?_
      exact At.step hX32 ⟨_, _, rfl, hS32⟩
    refine And.intro ?_ ?_
    · intro L_ wr hX_ hs_ hf_ hd_
      obtain ⟨v8, e8, r8⟩ := hd_ 8 rfl
      obtain ⟨a8, c8, rfl, hb8⟩ := r8
      refine W.step [(32, _)] (Sub.cons (e8 _ rfl) (Sub.refl _)) ?_
      refine W.move rfl rfl ?_
      refine W.nil ?_
      exact At.step (Ext.refl _) ⟨_, _, rfl, hb8⟩
    refine And.intro ?_ ?_
    · intro L_ wr hX_ hs_ hf_ hd_
      obtain ⟨v9, e9, r9⟩ := hd_ 9 rfl
      obtain ⟨a9, c9, rfl, hb9⟩ := r9
      refine W.step [(23, _)] (Sub.cons (e9 _ rfl) (Sub.refl _)) ?_
      refine W.extract rfl rfl rfl ?_
      refine W.nil ?_
      exact At.step (Ext.refl _) ⟨_, _, rfl, hb9⟩
    refine And.intro ?_ ?_
    · intro L_ wr hX_ hs_ hf_ hd_
      obtain ⟨v9, e9, r9⟩ := hd_ 9 rfl
      obtain ⟨a9, c9, rfl, hb9⟩ := r9
      refine W.step [(23, _)] (Sub.cons (e9 _ rfl) (Sub.refl _)) ?_
      refine W.extract rfl rfl rfl ?_
      refine W.nil ?_
      exact At.step (Ext.refl _) rfl
    refine And.intro ?_ ?_
    · intro L_ wr hX_ hs_ hf_ hd_
      obtain ⟨v10, e10, r10⟩ := hd_ 10 rfl
      obtain ⟨a10, c10, rfl, hb10⟩ := r10
      refine W.step [(33, _)] (Sub.cons (e10 _ rfl) (Sub.refl _)) ?_
      refine W.assign rfl rfl ?_
      refine W.nil ?_
      exact At.step (Ext.refl _) ⟨_, _, rfl, hb10⟩
    refine And.intro ?_ ?_
    · intro L_ wr hX_ hs_ hf_ hd_
      obtain ⟨v11, e11, r11⟩ := hd_ 11 rfl
      obtain rfl : (.bool q : Value) = v11 := Eq.symm r11
      refine W.step [(34, _)] (Sub.cons (e11 _ rfl) (Sub.refl _)) ?_
      refine W.assign rfl rfl ?_
      refine W.nil ?_
      exact At.step (Ext.refl _) rfl
    exact trivial
  · intro L_ wr hX4 hs_ hv_
    obtain ⟨v12, e12, r12⟩ := hv_ 12 (by decide)
    obtain ⟨a12, c12, rfl, hb12⟩ := r12
    obtain ⟨v13, e13, r13⟩ := hv_ 13 (by decide)
    obtain rfl : (.bool q : Value) = v13 := Eq.symm r13
    refine W.weaken (l' := [(11, _), (12, _), (0, _), (1, _), (2, _), (7, _), (8, _), (10, _)]) (Sub.cons (e12 _ rfl) (Sub.cons (e13 _ rfl) (Sub.cons (hs_ _ _ rfl) (Sub.cons (hs_ _ _ rfl) (Sub.cons (hs_ _ _ rfl) (Sub.cons (hs_ _ _ rfl) (Sub.cons (hs_ _ _ rfl) (Sub.cons (hs_ _ _ rfl) (Sub.nil))))))))) ?_
    refine W.nil ?_
    refine At.thenCode ?_
    refine C.seq ?_
    refine C.seq ?_
    refine C.region ?_
    refine W.move rfl rfl ?_
    first | refine W.notD rfl rfl ?_ | refine W.notB rfl rfl ?_
    refine W.nil ?_
    refine At.thenCode ?_
    first | refine C.condD rfl (fun c36 => ?_) (fun c36 => ?_) | refine C.cond rfl (fun c36 => ?_) (fun c36 => ?_)
    · have hq0 : q = false := by simpa using c36
      have hno' : ¬ openOk T K b := by rw [hq] at hq0; exact of_decide_eq_false hq0
      have hRN : readN T K b = zeroNote := by unfold readN; rw [if_neg hno']
      have hRB : readB T K b = false := by unfold readB; rw [decide_eq_false hno']; rfl
      refine C.seq ?_
      refine C.region ?_
      refine W.buildS (fs := _) [(0, 1), (1, 1), (2, 32)] (noteC zeroNote) (noteC zeroNote) Try.underlying34 (by kernel_rfl) (by kernel_rfl) rfl rfl rfl ?_
      refine W.storeA (noteC zeroNote) rfl rfl (hB8a.ext hX4) rfl (by kernel_rfl) (noteC_one _) ?_
      intro wy hcy hBy
      refine W.assign rfl rfl ?_
      refine W.nil ?_
      refine At.thenCode ?_
      refine C.ret ?_
      refine At.thenRet ?_
      -- RESULT IN A CELL
      refine At.retCT Try.results29 rfl rfl (hBy.cells (o := 0)) Try.underlying34 rfl (by kernel_rfl) ?_
      rw [List.drop_zero, hRN, hRB]
      exact ⟨rfl, (hX11.ext hX4).news hcy fun k hk => Or.inr (by omega)⟩
    · have hq1 : q = true := by simpa using c36
      have hyes : openOk T K b := by rw [hq] at hq1; exact of_decide_eq_true hq1
      have hRN : readN T K b = noteR p := by unfold readN; rw [if_pos hyes, hp]
      have hRB : readB T K b = decide (noteRE p = 0) := by unfold readB; rw [decide_eq_true hyes, hp]; rfl
      refine C.skip ?_
      refine At.thenCode ?_
      refine C.seq ?_
      refine C.region ?_
      refine W.move rfl rfl ?_
      refine W.call Try.call59 rfl (Cod.ReadNote_ok a12 c12 p _ hb12 (by omega)) rfl ?_
      rintro v40 w40 ⟨rfl, hX40⟩
      refine W.move rfl rfl ?_
      refine W.extract rfl rfl rfl ?_
      refine W.extract rfl rfl rfl ?_
      refine W.alloc (z := .agg (noteC zeroNote).toArray) (noteC zeroNote) (by kernel_rfl) rfl rfl ?_
      intro g13 w13 hg13 hX13 hB13
      refine W.storeA (noteC (noteR p)) rfl rfl hB13 (by rw [hnl]; rfl) (by rw [hnl]; kernel_rfl) (noteC_one _) ?_
      intro w14 hc14 hB14
      have hX14 : Ext w11 w14 := ((hX4.ext hX40).ext hX13).news hc14 fun k hk => Or.inr (by have := hX4.size; have := hX40.size; omega)
      have hB8b := hB8a.ext hX14
      refine W.assign rfl rfl ?_
      refine W.nil ?_
      refine At.thenCode ?_
      refine C.seq ?_
      refine C.region ?_
      refine W.loadA rfl (hB14.cells (o := 0)) Try.underlying34 rfl (by rw [List.drop_zero, hnl]; kernel_rfl) rfl ?_
      rw [List.drop_zero]
      refine W.move rfl rfl ?_
      refine W.eqlI rfl rfl rfl ?_
      refine W.storeA (noteC (noteR p)) rfl rfl hB8b (by rw [hnl]; rfl) (by rw [hnl]; kernel_rfl) (noteC_one _) ?_
      intro wz hcz hBz
      refine W.assign rfl rfl ?_
      refine W.nil ?_
      refine At.thenCode ?_
      refine C.ret ?_
      -- RESULT IN A CELL
      refine At.retCT Try.results29 rfl rfl (hBz.cells (o := 0)) Try.underlying34 rfl (by rw [List.drop_zero, hnl]; kernel_rfl) ?_
      have hdec : decide (((noteRE p : Nat) : Int) = 0) = decide (noteRE p = 0) := by rw [decide_eq_decide]; omega
      rw [List.drop_zero, hRN, hRB, ← hdec]
      exact ⟨rfl, (hX11.ext hX14).news hcz fun k hk => Or.inr (by omega)⟩
theorem RRead_ok (y X : Nat) (i : Int) (m : Nat) (a : Option Addr) (c : Nat) (b : List UInt8) (w : World) (hy : y < 18446744073709551616) (hm : iu 18446744073709551616 i = m) (hb : Bs w a c b) (hl : b.length ≤ 200000) :
    Ct Try.prog 30 #[.int .u64 (y : Int), .int .u64 (X : Int), .int .i64 i, .agg (letC (nameV (timesV 37 y)) (.slice a b.length c)).toArray] w (fun v w' => v = .tuple #[.agg (noteC (readN (betweenV y X (nameV (timesV 37 y)) m) (nameV (timesV 37 y)) b)).toArray, .bool (readB (betweenV y X (nameV (timesV 37 y)) m) (nameV (timesV 37 y)) b)] ∧ Ext w w') := by
  obtain ⟨K, hK⟩ : ∃ K, K = nameV (timesV 37 y) := ⟨_, rfl⟩
  have hKl : K.length = 32 := by rw [hK]; exact nameV_length _
  rw [← hK]
  obtain ⟨T, hT⟩ : ∃ T, T = betweenV y X K m := ⟨_, rfl⟩
  have hTl : T.length = 32 := by rw [hT]; exact keyD_length _ _
  rw [← hT]
  obtain ⟨p, hp⟩ : ∃ p, p = openV T K b := ⟨_, rfl⟩
  obtain ⟨q, hq⟩ : ∃ q, q = decide (openOk T K b) := ⟨_, rfl⟩
  have hpl : p.length ≤ b.length := by rw [hp]; exact openV_le _ _ _
  refine Ct.enter [(0, .int .u64 (y : Int)), (1, .int .u64 (X : Int)), (2, .int .i64 i), (3, .agg (letC K (.slice a b.length c)).toArray)] Try.func30 rfl rfl rfl rfl ?_
  have hno := noteR_ok p
  have hnl := noteC_length hno
  have hnz := noteC_length zeroNoteOk
  have hkey : ∀ u, ((letC K u).drop 0).take 32 = K.map byteV := fun u => by unfold letC; rw [List.drop_zero, List.take_append_of_le_length (by simp [hKl]), List.take_of_length_le (by simp [hKl])]
  refine C.seq ?_
  refine C.region ?_
  refine W.box (letC K (.slice a b.length c)) rfl rfl rfl ?_
  intro g7 w7 hg7 hX7 hB7
  refine W.alloc (z := .agg (noteC zeroNote).toArray) (noteC zeroNote) (by kernel_rfl) rfl rfl ?_
  intro g8 w8 hg8 hX8 hB8
  refine W.assign rfl rfl ?_
  refine W.nil ?_
  refine At.thenCode ?_
  refine C.seq ?_
  refine C.region ?_
  refine W.move rfl rfl ?_
  refine W.call Try.call19 rfl (Grp.RBase_ok y (by omega) _) rfl ?_
  rintro v17 w17' ⟨rfl, rfl⟩
  refine W.call Try.call22 rfl (Let.RName_ok _ _) rfl ?_
  rintro v18 w18 ⟨rfl, hX18⟩
  rw [← hK]
  refine W.alloc (z := .agg (List.replicate 32 (byteV 0)).toArray) (List.replicate 32 (byteV 0)) (by kernel_rfl) rfl rfl ?_
  intro g10 w10 hg10 hX10 hB10
  refine W.storeA (K.map byteV) rfl rfl hB10 (by rw [List.length_map, hKl]; rfl) (by rw [List.length_map, hKl]; kernel_rfl) (bytes_oneCell _) ?_
  intro w11 hc11 hB11
  have hl8 := hB8.lt
  have hl7 := hB7.lt
  have hs7 := hX7.size
  have hs8 := hX8.size
  have hs17 := hX18.size
  have hX11 : Ext w w11 := (((hX7.ext hX8).ext hX18).ext hX10).news hc11 fun k hk => Or.inr (by omega)
  have hB8a : Bk w11 g8 (noteC zeroNote) := ((hB8.ext hX18).ext hX10).chg hc11 (by omega)
  have hB7a : Bk w11 g7 (letC K (.slice a b.length c)) := (((hB7.ext hX8).ext hX18).ext hX10).chg hc11 (by omega)
  refine W.nil ?_
  refine At.thenCode ?_
  refine C.seq ?_
  refine C.seq ?_
  refine C.region ?_
  refine W.fieldB (off := 0) (size := 32) (t := 23) (Fld.of (by kernel_rfl)) rfl rfl rfl ?_
  refine W.loadA (cs := K.map byteV) rfl (by have := Bk.cellsN (o := 0) (n := 32) hB7a; rwa [hkey] at this) Try.underlying23 rfl (by rw [List.length_map, hKl]; kernel_rfl) rfl ?_
  refine W.loadA rfl (hB11.cells (o := 0)) Try.underlying23 rfl (by rw [List.drop_zero, List.length_map, hKl]; kernel_rfl) rfl ?_
  rw [List.drop_zero]
  refine W.neqKey (a := K) (b := K) (n := 32) Try.underlying23 Try.underlying5 (by kernel_rfl) rfl rfl hKl hKl (by kernel_rfl) rfl ?_
  refine W.eqv (bF (fun h => h rfl)) ?_
  refine W.nil ?_
  refine At.thenCode ?_
  refine C.condF rfl ?_
  refine C.skip ?_
  refine At.thenCode ?_
  refine C.seq ?_
  refine C.regionAny 7 ((fun v w => v = .int .u64 (X : Int)) :: (fun v w => v = .int .u64 (y : Int)) :: (fun v w => v = .int .u64 ((timesV X y : Nat) : Int)) :: (fun v w => v = keyV K) :: (fun v w => v = .int .i64 i) :: (fun v w => v = keyV T) :: (fun v w => ∃ g, v = .pointer (some ⟨g, 0, none⟩) ∧ w11.heap.size ≤ g ∧ Bk w g (List.replicate 32 (byteV 0))) :: []) [(0, .int .u64 (y : Int)), (1, .int .u64 (X : Int)), (2, .int .i64 i), (7, .pointer (some ⟨g7, 0, none⟩)), (8, .pointer (some ⟨g8, 0, none⟩)), (10, .pointer (some ⟨g10, 0, none⟩))] [] (Sub.cons (rfl) (Sub.cons (rfl) (Sub.cons (rfl) (Sub.cons (rfl) (Sub.cons (rfl) (Sub.cons (rfl) (Sub.nil))))))) (Sub.nil) (Sub.cons (rfl) (Sub.cons (rfl) (Sub.cons (rfl) (Sub.cons (rfl) (Sub.cons (rfl) (Sub.cons (rfl) (Sub.nil))))))) (by kernel_rfl) rfl rfl rfl (And.intro (fun _ _ _ h _ => h) (And.intro (fun _ _ _ h _ => h) (And.intro (fun _ _ _ h _ => h) (And.intro (fun _ _ _ h _ => h) (And.intro (fun _ _ _ h _ => h) (And.intro (fun _ _ _ h _ => h) (And.intro (fun _ _ _ ⟨g, e, q, h⟩ x => ⟨g, e, q, h.ext x⟩) (trivial)))))))) ?_ ?_
  · refine And.intro ?_ ?_
    · intro L_ wq hX_ hs_ hf_ hd_
      refine W.step [(1, _)] (Sub.cons (hs_ _ _ rfl) (Sub.refl _)) ?_
      refine W.move rfl rfl ?_
      refine W.nil ?_
      exact At.step (Ext.refl _) rfl
    refine And.intro ?_ ?_
    · intro L_ wq hX_ hs_ hf_ hd_
      refine W.step [(0, _)] (Sub.cons (hs_ _ _ rfl) (Sub.refl _)) ?_
      refine W.move rfl rfl ?_
      refine W.nil ?_
      exact At.step (Ext.refl _) rfl
    refine And.intro ?_ ?_
    · intro L_ wq hX_ hs_ hf_ hd_
      obtain ⟨v0, e0, r0⟩ := hd_ 0 rfl
      obtain rfl : (.int .u64 (X : Int) : Value) = v0 := Eq.symm r0
      obtain ⟨v1, e1, r1⟩ := hd_ 1 rfl
      obtain rfl : (.int .u64 (y : Int) : Value) = v1 := Eq.symm r1
      refine W.step [(24, _), (25, _)] (Sub.cons (e0 _ rfl) (Sub.cons (e1 _ rfl) (Sub.refl _))) ?_
      refine W.call Try.call39 rfl (Grp.RTimes_ok X y hy _) rfl ?_
      rintro v26 w26 ⟨rfl, rfl⟩
      refine W.nil ?_
      exact At.step (Ext.refl _) rfl
    refine And.intro ?_ ?_
    · intro L_ wq hX_ hs_ hf_ hd_
      refine W.step [(10, _)] (Sub.cons (hs_ _ _ rfl) (Sub.refl _)) ?_
      refine W.loadA rfl ((hB11.ext hX_).cells (o := 0)) Try.underlying23 rfl (by rw [List.drop_zero, List.length_map, hKl]; kernel_rfl) rfl ?_
      rw [List.drop_zero]
      refine W.nil ?_
      exact At.step (Ext.refl _) rfl
    refine And.intro ?_ ?_
    · intro L_ wq hX_ hs_ hf_ hd_
      refine W.step [(2, _)] (Sub.cons (hs_ _ _ rfl) (Sub.refl _)) ?_
      refine W.move rfl rfl ?_
      refine W.nil ?_
      exact At.step (Ext.refl _) rfl
    refine And.intro ?_ ?_
    · intro L_ wq hX_ hs_ hf_ hd_
      obtain ⟨v2, e2, r2⟩ := hd_ 2 rfl
      obtain rfl : (.int .u64 ((timesV X y : Nat) : Int) : Value) = v2 := Eq.symm r2
      obtain ⟨v3, e3, r3⟩ := hd_ 3 rfl
      obtain rfl : (keyV K : Value) = v3 := Eq.symm r3
      obtain ⟨v4, e4, r4⟩ := hd_ 4 rfl
      obtain rfl : (.int .i64 i : Value) = v4 := Eq.symm r4
      refine W.step [(26, _), (27, _), (28, _)] (Sub.cons (e2 _ rfl) (Sub.cons (e3 _ rfl) (Sub.cons (e4 _ rfl) (Sub.refl _)))) ?_
      refine W.call Try.call56 rfl (Let.talked_ok (timesV X y) K i m _ hKl hm) rfl ?_
      rintro v29 w29 ⟨rfl, hX29⟩
      rw [show keyD ((be64 (timesV X y) ++ K) ++ be64 m) noteS = T from by rw [hT]; rfl]
      refine W.nil ?_
      exact At.step hX29 rfl
    refine And.intro ?_ ?_
    · intro L_ wq hX_ hs_ hf_ hd_
      refine W.step [] (Sub.refl _) ?_
      refine W.alloc (z := .agg (List.replicate 32 (byteV 0)).toArray) (List.replicate 32 (byteV 0)) (by kernel_rfl) rfl rfl ?_
      intro gb wb hgb hXb hBb
      refine W.nil ?_
      exact At.step hXb ⟨gb, rfl, by have := hX_.size; omega, hBb⟩
    exact trivial
  · intro L_ wq hX4 hs_ hv_
    obtain ⟨v6, e6, r6⟩ := hv_ 6 (by decide)
    obtain ⟨g11, rfl, hg11, hB11z⟩ := r6
    obtain ⟨v5, e5, r5⟩ := hv_ 5 (by decide)
    obtain rfl : (keyV T : Value) = v5 := Eq.symm r5
    refine W.weaken (l' := [(11, _), (29, _), (0, _), (1, _), (2, _), (7, _), (8, _), (10, _)]) (Sub.cons (e6 _ rfl) (Sub.cons (e5 _ rfl) (Sub.cons (hs_ _ _ rfl) (Sub.cons (hs_ _ _ rfl) (Sub.cons (hs_ _ _ rfl) (Sub.cons (hs_ _ _ rfl) (Sub.cons (hs_ _ _ rfl) (Sub.cons (hs_ _ _ rfl) (Sub.nil))))))))) ?_
    refine W.storeA (T.map byteV) rfl rfl hB11z (by rw [List.length_map, hTl]; rfl) (by rw [List.length_map, hTl]; kernel_rfl) (bytes_oneCell _) ?_
    intro wt hct hBt
    have hXt : Ext w11 wt := hX4.news hct fun k hk => Or.inr (by omega)
    have hXw := hX11.ext hXt
    have hB8t := hB8a.ext hXt
    have hB7t := hB7a.ext hXt
    have hB10t := hB11.ext hXt
    refine W.nil ?_
    refine At.thenCode ?_
    refine C.seq ?_
    refine C.regionAny 11 ((fun v w => v = keyV T) :: (fun v w => v = keyV K) :: (fun v w => Rep w v K) :: (fun v w => v = .pointer (some ⟨g7, 32, none⟩)) :: (fun v w => v = .slice a b.length c) :: (fun v w => ∃ ao c', v = .tuple #[.slice ao p.length c', .bool q] ∧ Bs w ao c' p) :: (fun v w => ∃ ao c', v = .tuple #[.slice ao p.length c', .bool q] ∧ Bs w ao c' p) :: (fun v w => Rep w v p) :: (fun v w => v = .bool q) :: (fun v w => Rep w v p) :: (fun v w => v = .bool q) :: []) [(7, .pointer (some ⟨g7, 0, none⟩)), (8, .pointer (some ⟨g8, 0, none⟩)), (10, .pointer (some ⟨g10, 0, none⟩)), (11, .pointer (some ⟨g11, 0, none⟩))] [] (Sub.cons (rfl) (Sub.cons (rfl) (Sub.cons (rfl) (Sub.cons (rfl) (Sub.nil))))) (Sub.nil) (Sub.cons (rfl) (Sub.cons (rfl) (Sub.cons (rfl) (Sub.cons (rfl) (Sub.nil))))) (by kernel_rfl) rfl rfl rfl (And.intro (fun _ _ _ h _ => h) (And.intro (fun _ _ _ h _ => h) (And.intro (fun _ _ _ h g => Rep.ext h g) (And.intro (fun _ _ _ h _ => h) (And.intro (fun _ _ _ h _ => h) (And.intro (fun _ _ _ ⟨ao, c', e, h⟩ g => ⟨ao, c', e, Sl.ext h g⟩) (And.intro (fun _ _ _ ⟨ao, c', e, h⟩ g => ⟨ao, c', e, Sl.ext h g⟩) (And.intro (fun _ _ _ h g => Rep.ext h g) (And.intro (fun _ _ _ h _ => h) (And.intro (fun _ _ _ h g => Rep.ext h g) (And.intro (fun _ _ _ h _ => h) (trivial)))))))))))) ?_ ?_
    · refine And.intro ?_ ?_
      · intro L_ wr hX_ hs_ hf_ hd_
        refine W.step [(11, _)] (Sub.cons (hs_ _ _ rfl) (Sub.refl _)) ?_
        refine W.loadA rfl ((hBt.ext hX_).cells (o := 0)) Try.underlying23 rfl (by rw [List.drop_zero, List.length_map, hTl]; kernel_rfl) rfl ?_
        rw [List.drop_zero]
        refine W.nil ?_
        exact At.step (Ext.refl _) rfl
      refine And.intro ?_ ?_
      · intro L_ wr hX_ hs_ hf_ hd_
        refine W.step [(10, _)] (Sub.cons (hs_ _ _ rfl) (Sub.refl _)) ?_
        refine W.loadA rfl ((hB10t.ext hX_).cells (o := 0)) Try.underlying23 rfl (by rw [List.drop_zero, List.length_map, hKl]; kernel_rfl) rfl ?_
        rw [List.drop_zero]
        refine W.nil ?_
        exact At.step (Ext.refl _) rfl
      refine And.intro ?_ ?_
      · intro L_ wr hX_ hs_ hf_ hd_
        obtain ⟨v1, e1, r1⟩ := hd_ 1 rfl
        obtain rfl : (keyV K : Value) = v1 := Eq.symm r1
        refine W.step [(32, _)] (Sub.cons (e1 _ rfl) (Sub.refl _)) ?_
        refine W.call Try.call53 rfl (Let.bytes12_ok K hKl _) rfl ?_
        rintro v33 w33 ⟨hO33, hX33⟩
        obtain ⟨a33, c33, rfl, hS33, _⟩ := ownsRow_form hO33
        refine W.nil ?_
        exact At.step hX33 ⟨_, _, rfl, hS33⟩
      refine And.intro ?_ ?_
      · intro L_ wr hX_ hs_ hf_ hd_
        refine W.step [(7, _)] (Sub.cons (hs_ _ _ rfl) (Sub.refl _)) ?_
        refine W.fieldB (off := 32) (size := 1) (t := 24) (Fld.of (by kernel_rfl)) rfl rfl rfl ?_
        refine W.nil ?_
        exact At.step (Ext.refl _) rfl
      refine And.intro ?_ ?_
      · intro L_ wr hX_ hs_ hf_ hd_
        obtain ⟨v3, e3, r3⟩ := hd_ 3 rfl
        obtain rfl : (.pointer (some ⟨g7, 32, none⟩) : Value) = v3 := Eq.symm r3
        refine W.step [(34, _)] (Sub.cons (e3 _ rfl) (Sub.refl _)) ?_
        refine W.loadB (v := .slice a b.length c) rfl Try.underlying24 rfl (hB7t.ext hX_) (letC_get hKl _) rfl ?_
        refine W.nil ?_
        exact At.step (Ext.refl _) rfl
      refine And.intro ?_ ?_
      · intro L_ wr hX_ hs_ hf_ hd_
        obtain ⟨v0, e0, r0⟩ := hd_ 0 rfl
        obtain rfl : (keyV T : Value) = v0 := Eq.symm r0
        obtain ⟨v2, e2, r2⟩ := hd_ 2 rfl
        obtain ⟨a2, c2, rfl, hb2⟩ := r2
        obtain ⟨v4, e4, r4⟩ := hd_ 4 rfl
        obtain rfl : (.slice a b.length c : Value) = v4 := Eq.symm r4
        refine W.step [(31, _), (33, _), (35, _)] (Sub.cons (e0 _ rfl) (Sub.cons (e2 _ rfl) (Sub.cons (e4 _ rfl) (Sub.refl _)))) ?_
        refine W.call Try.call16 rfl (Seal.ROpen_ok T a2 c2 K a c b wr hTl hb2 ((hb.ext hXw).ext hX_) (by omega) (by omega)) rfl ?_
        rintro v36 w36 ⟨⟨a36, c36, rfl, hS36, _⟩, hX36⟩
        rw [← hp] at hS36 ⊢
        rw [← hq]
        refine W.nil ?_
        exact At.step hX36 ⟨_, _, rfl, hS36⟩
      refine And.intro ?_ ?_
      · intro L_ wr hX_ hs_ hf_ hd_
        obtain ⟨v5, e5, r5⟩ := hd_ 5 rfl
        obtain ⟨a8, c8, rfl, hb8⟩ := r5
        refine W.step [(36, _)] (Sub.cons (e5 _ rfl) (Sub.refl _)) ?_
        refine W.move rfl rfl ?_
        refine W.nil ?_
        exact At.step (Ext.refl _) ⟨_, _, rfl, hb8⟩
      refine And.intro ?_ ?_
      · intro L_ wr hX_ hs_ hf_ hd_
        obtain ⟨v6, e6, r6⟩ := hd_ 6 rfl
        obtain ⟨a9, c9, rfl, hb9⟩ := r6
        refine W.step [(30, _)] (Sub.cons (e6 _ rfl) (Sub.refl _)) ?_
        refine W.extract rfl rfl rfl ?_
        refine W.nil ?_
        exact At.step (Ext.refl _) ⟨_, _, rfl, hb9⟩
      refine And.intro ?_ ?_
      · intro L_ wr hX_ hs_ hf_ hd_
        obtain ⟨v6, e6, r6⟩ := hd_ 6 rfl
        obtain ⟨a9, c9, rfl, hb9⟩ := r6
        refine W.step [(30, _)] (Sub.cons (e6 _ rfl) (Sub.refl _)) ?_
        refine W.extract rfl rfl rfl ?_
        refine W.nil ?_
        exact At.step (Ext.refl _) rfl
      refine And.intro ?_ ?_
      · intro L_ wr hX_ hs_ hf_ hd_
        obtain ⟨v7, e7, r7⟩ := hd_ 7 rfl
        obtain ⟨a10, c10, rfl, hb10⟩ := r7
        refine W.step [(37, _)] (Sub.cons (e7 _ rfl) (Sub.refl _)) ?_
        refine W.assign rfl rfl ?_
        refine W.nil ?_
        exact At.step (Ext.refl _) ⟨_, _, rfl, hb10⟩
      refine And.intro ?_ ?_
      · intro L_ wr hX_ hs_ hf_ hd_
        obtain ⟨v8, e8, r8⟩ := hd_ 8 rfl
        obtain rfl : (.bool q : Value) = v8 := Eq.symm r8
        refine W.step [(38, _)] (Sub.cons (e8 _ rfl) (Sub.refl _)) ?_
        refine W.assign rfl rfl ?_
        refine W.nil ?_
        exact At.step (Ext.refl _) rfl
      exact trivial
    · intro L_ wr hX5 hs_ hv_
      obtain ⟨v9, e9, r9⟩ := hv_ 9 (by decide)
      obtain ⟨a12, c12, rfl, hb12⟩ := r9
      obtain ⟨v10, e10, r10⟩ := hv_ 10 (by decide)
      obtain rfl : (.bool q : Value) = v10 := Eq.symm r10
      refine W.weaken (l' := [(12, _), (13, _), (7, _), (8, _), (10, _), (11, _)]) (Sub.cons (e9 _ rfl) (Sub.cons (e10 _ rfl) (Sub.cons (hs_ _ _ rfl) (Sub.cons (hs_ _ _ rfl) (Sub.cons (hs_ _ _ rfl) (Sub.cons (hs_ _ _ rfl) (Sub.nil))))))) ?_
      refine W.nil ?_
      refine At.thenCode ?_
      refine C.seq ?_
      refine C.seq ?_
      refine C.region ?_
      refine W.move rfl rfl ?_
      first | refine W.notD rfl rfl ?_ | refine W.notB rfl rfl ?_
      refine W.nil ?_
      refine At.thenCode ?_
      first | refine C.condD rfl (fun c40 => ?_) (fun c40 => ?_) | refine C.cond rfl (fun c40 => ?_) (fun c40 => ?_)
      · have hq0 : q = false := by simpa using c40
        have hno' : ¬ openOk T K b := by rw [hq] at hq0; exact of_decide_eq_false hq0
        have hRN : readN T K b = zeroNote := by unfold readN; rw [if_neg hno']
        have hRB : readB T K b = false := by unfold readB; rw [decide_eq_false hno']; rfl
        refine C.seq ?_
        refine C.region ?_
        refine W.buildS (fs := _) [(0, 1), (1, 1), (2, 32)] (noteC zeroNote) (noteC zeroNote) Try.underlying34 (by kernel_rfl) (by kernel_rfl) rfl rfl rfl ?_
        refine W.storeA (noteC zeroNote) rfl rfl (hB8t.ext hX5) rfl (by kernel_rfl) (noteC_one _) ?_
        intro wy hcy hBy
        refine W.assign rfl rfl ?_
        refine W.nil ?_
        refine At.thenCode ?_
        refine C.ret ?_
        refine At.thenRet ?_
        -- RESULT IN A CELL
        refine At.retCT Try.results30 rfl rfl (hBy.cells (o := 0)) Try.underlying34 rfl (by kernel_rfl) ?_
        rw [List.drop_zero, hRN, hRB]
        exact ⟨rfl, (hXw.ext hX5).news hcy fun k hk => Or.inr (by omega)⟩
      · have hq1 : q = true := by simpa using c40
        have hyes : openOk T K b := by rw [hq] at hq1; exact of_decide_eq_true hq1
        have hRN : readN T K b = noteR p := by unfold readN; rw [if_pos hyes, hp]
        have hRB : readB T K b = decide (noteRE p = 0) := by unfold readB; rw [decide_eq_true hyes, hp]; rfl
        refine C.skip ?_
        refine At.thenCode ?_
        refine C.seq ?_
        refine C.region ?_
        refine W.move rfl rfl ?_
        refine W.call Try.call60 rfl (Cod.RReadNote_ok a12 c12 p _ hb12 (by omega)) rfl ?_
        rintro v44 w44 ⟨rfl, hX44⟩
        refine W.move rfl rfl ?_
        refine W.extract rfl rfl rfl ?_
        refine W.extract rfl rfl rfl ?_
        refine W.alloc (z := .agg (noteC zeroNote).toArray) (noteC zeroNote) (by kernel_rfl) rfl rfl ?_
        intro g13 w13 hg13 hX13 hB13
        refine W.storeA (noteC (noteR p)) rfl rfl hB13 (by rw [hnl]; rfl) (by rw [hnl]; kernel_rfl) (noteC_one _) ?_
        intro w14 hc14 hB14
        have hX14 : Ext wt w14 := ((hX5.ext hX44).ext hX13).news hc14 fun k hk => Or.inr (by have := hX5.size; have := hX44.size; omega)
        have hB8b := hB8t.ext hX14
        refine W.assign rfl rfl ?_
        refine W.nil ?_
        refine At.thenCode ?_
        refine C.seq ?_
        refine C.region ?_
        refine W.loadA rfl (hB14.cells (o := 0)) Try.underlying34 rfl (by rw [List.drop_zero, hnl]; kernel_rfl) rfl ?_
        rw [List.drop_zero]
        refine W.move rfl rfl ?_
        refine W.eqlI rfl rfl rfl ?_
        refine W.storeA (noteC (noteR p)) rfl rfl hB8b (by rw [hnl]; rfl) (by rw [hnl]; kernel_rfl) (noteC_one _) ?_
        intro wz hcz hBz
        refine W.assign rfl rfl ?_
        refine W.nil ?_
        refine At.thenCode ?_
        refine C.ret ?_
        -- RESULT IN A CELL
        refine At.retCT Try.results30 rfl rfl (hBz.cells (o := 0)) Try.underlying34 rfl (by rw [List.drop_zero, hnl]; kernel_rfl) ?_
        have hdec : decide (((noteRE p : Nat) : Int) = 0) = decide (noteRE p = 0) := by rw [decide_eq_decide]; omega
        rw [List.drop_zero, hRN, hRB, ← hdec]
        exact ⟨rfl, (hXw.ext hX14).news hcz fun k hk => Or.inr (by omega)⟩
end Go.Proofs.Ytkjmllohbohliaa.Let
