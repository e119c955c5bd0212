/- Package letter's Read of what was written so; powers of powers. -/
import Derived.Test.YtkjmllohbohliaaLet5
import Derived.Test.YtkjmllohbohliaaMp
import Derived.Test.YtkjmllohbohliaaCodS
namespace Go.Proofs.Ytkjmllohbohliaa.Let
open Go Go.RowKit Go.Proofs.Ytkjmllohbohliaa.KW Go.Proofs.Ytkjmllohbohliaa.Words Go.Proofs.Ytkjmllohbohliaa.Sha Go.Proofs.Ytkjmllohbohliaa.RSha Go.Proofs.Ytkjmllohbohliaa.Derive Go.Proofs.Ytkjmllohbohliaa.Seal Go.Proofs.Ytkjmllohbohliaa.Grp Go.Proofs.Ytkjmllohbohliaa.Cod Go.Proofs.Ytkjmllohbohliaa.Modp
set_option linter.unusedVariables false
set_option linter.unusedSimpArgs false
set_option maxRecDepth 100000
theorem powP_right {x : Nat} (h : Rt x) (a : Nat) : Rt (powP x a) := by
  refine ⟨?_, powP_lt _ _⟩
  obtain ⟨i, rfl⟩ := generated h.1 h.2
  rw [powP_mul, ← powP_modN (by decide)]
  have := powP_ne0 (i * a % 2305843009213693950) (by have := Nat.mod_lt (i * a) (show 0 < 2305843009213693950 by decide); omega)
  omega
theorem timesV_right {x : Nat} (h : Rt x) (a : Nat) : timesV x a = powP x a := by rw [timesV, if_pos h]
theorem right_mod {x : Nat} (h : Rt x) : x % 2305843009213693951 ≠ 0 := by rw [Nat.mod_eq_of_lt h.2]; omega
theorem times_times {x : Nat} (h : Rt x) (a b : Nat) : timesV (timesV x a) b = timesV x (a * b % 2305843009213693950) := by
  rw [timesV_right h, timesV_right (powP_right h a), timesV_right h, powP_mul, powP_modN (right_mod h)]
theorem times_comm (a b : Nat) : timesV (timesV 37 a) b = timesV (timesV 37 b) a := by
  rw [times_times (by decide), times_times (by decide), Nat.mul_comm]
theorem Read_ok (y X : Nat) (i : Int) (m : Nat) (a : Option Addr) (c : Nat) (b : List UInt8) (n : NoteD) (w : World) (hy : y < 18446744073709551616) (hm : iu 18446744073709551616 i = m) (hn : NoteOk n) (hb : Bs w a c b) (hl : b.length ≤ 200000)
    (hop : openOk (betweenV y X (nameV (timesV 37 y)) m) (nameV (timesV 37 y)) b) (hov : openV (betweenV y X (nameV (timesV 37 y)) m) (nameV (timesV 37 y)) b = noteB n) :
    Ct Try.prog 29 #[.int .u64 (y : Int), .int .u64 (X : Int), .int .i64 i, .agg (letC (nameV (timesV 37 y)) (.slice a b.length c)).toArray] w (fun v w' => v = .tuple #[.agg (noteC n).toArray, .bool true] ∧ Ext w w') := by
  obtain ⟨K, hK⟩ : ∃ K, K = nameV (timesV 37 y) := ⟨_, rfl⟩
  have hKl : K.length = 32 := by rw [hK]; exact nameV_length _
  rw [← hK] at hop hov ⊢
  obtain ⟨T, hT⟩ : ∃ T, T = betweenV y X K m := ⟨_, rfl⟩
  have hTl : T.length = 32 := by rw [hT]; exact keyD_length _ _
  rw [← hT] at hop hov
  refine Ct.enter [(0, .int .u64 (y : Int)), (1, .int .u64 (X : Int)), (2, .int .i64 i), (3, .agg (letC K (.slice a b.length c)).toArray)] Try.func29 rfl rfl rfl rfl ?_
  have hnl := noteC_length hn
  have hbl := noteB_length hn
  obtain ⟨hr0, hr1⟩ := note_read n hn
  have hkey : ∀ u, ((letC K u).drop 0).take 32 = K.map byteV := fun u => by unfold letC; rw [List.drop_zero, List.take_append_of_le_length (by simp [hKl]), List.take_of_length_le (by simp [hKl])]
  refine C.seq ?_
  refine C.region ?_
  refine W.box (letC K (.slice a b.length c)) rfl rfl rfl ?_
  intro g7 w7 hg7 hX7 hB7
  refine W.alloc (z := .agg (noteC zeroNote).toArray) (noteC zeroNote) (by kernel_rfl) rfl rfl ?_
  intro g8 w8 hg8 hX8 hB8
  refine W.assign rfl rfl ?_
  refine W.nil ?_
  refine At.thenCode ?_
  refine C.seq ?_
  refine C.region ?_
  refine W.move rfl rfl ?_
  refine W.call Try.call40 rfl (Let.Public_ok _ (by omega) _) rfl ?_
  rintro v16 w16 ⟨rfl, rfl⟩
  refine W.call Try.call36 rfl (Let.Name_ok _ _) rfl ?_
  rintro v17 w17 ⟨rfl, hX17⟩
  rw [← hK]
  refine W.alloc (z := .agg (List.replicate 32 (byteV 0)).toArray) (List.replicate 32 (byteV 0)) (by kernel_rfl) rfl rfl ?_
  intro g10 w10 hg10 hX10 hB10
  refine W.storeA (K.map byteV) rfl rfl hB10 (by rw [List.length_map, hKl]; rfl) (by rw [List.length_map, hKl]; kernel_rfl) (bytes_oneCell _) ?_
  intro w11 hc11 hB11
  have hl8 := hB8.lt
  have hl7 := hB7.lt
  have hs7 := hX7.size
  have hs8 := hX8.size
  have hs17 := hX17.size
  have hX11 : Ext w w11 := (((hX7.ext hX8).ext hX17).ext hX10).news hc11 fun k hk => Or.inr (by omega)
  have hB8a : Bk w11 g8 (noteC zeroNote) := ((hB8.ext hX17).ext hX10).chg hc11 (by omega)
  have hB7a : Bk w11 g7 (letC K (.slice a b.length c)) := (((hB7.ext hX8).ext hX17).ext hX10).chg hc11 (by omega)
  refine W.nil ?_
  refine At.thenCode ?_
  refine C.seq ?_
  refine C.seq ?_
  refine C.region ?_
  refine W.fieldB (off := 0) (size := 32) (t := 23) (Fld.of (by kernel_rfl)) rfl rfl rfl ?_
  refine W.loadA (cs := K.map byteV) rfl (by have := Bk.cellsN (o := 0) (n := 32) hB7a; rwa [hkey] at this) Try.underlying23 rfl (by rw [List.length_map, hKl]; kernel_rfl) rfl ?_
  refine W.loadA rfl (hB11.cells (o := 0)) Try.underlying23 rfl (by rw [List.drop_zero, List.length_map, hKl]; kernel_rfl) rfl ?_
  rw [List.drop_zero]
  refine W.neqKey (a := K) (b := K) (n := 32) Try.underlying23 Try.underlying5 (by kernel_rfl) rfl rfl hKl hKl (by kernel_rfl) rfl ?_
  refine W.eqv (bF (fun h => h rfl)) ?_
  refine W.nil ?_
  refine At.thenCode ?_
  refine C.condF rfl ?_
  refine C.skip ?_
  refine At.thenCode ?_
  refine C.seq ?_
  refine C.regionAny 14 ((fun v w => v = .int .u64 (y : Int)) :: (fun v w => v = .int .u64 (X : Int)) :: (fun v w => v = keyV K) :: (fun v w => v = .int .i64 i) :: (fun v w => v = keyV T) :: (fun v w => v = .slice (some ⟨g10, 0, none⟩) 32 32) :: (fun v w => v = .pointer (some ⟨g7, 32, none⟩)) :: (fun v w => v = .slice a b.length c) :: (fun v w => ∃ ao c', v = .tuple #[.slice ao (noteB n).length c', .bool true] ∧ Bs w ao c' (noteB n)) :: (fun v w => ∃ ao c', v = .tuple #[.slice ao (noteB n).length c', .bool true] ∧ Bs w ao c' (noteB n)) :: (fun v w => Rep w v (noteB n)) :: (fun v w => v = .bool true) :: (fun v w => Rep w v (noteB n)) :: (fun v w => v = .bool true) :: []) [(0, .int .u64 (y : Int)), (1, .int .u64 (X : Int)), (2, .int .i64 i), (7, .pointer (some ⟨g7, 0, none⟩)), (8, .pointer (some ⟨g8, 0, none⟩)), (10, .pointer (some ⟨g10, 0, none⟩))] [] (Sub.cons (rfl) (Sub.cons (rfl) (Sub.cons (rfl) (Sub.cons (rfl) (Sub.cons (rfl) (Sub.cons (rfl) (Sub.nil))))))) (Sub.nil) (Sub.cons (rfl) (Sub.cons (rfl) (Sub.cons (rfl) (Sub.cons (rfl) (Sub.cons (rfl) (Sub.cons (rfl) (Sub.nil))))))) (by kernel_rfl) rfl rfl rfl (And.intro (fun _ _ _ h _ => h) (And.intro (fun _ _ _ h _ => h) (And.intro (fun _ _ _ h _ => h) (And.intro (fun _ _ _ h _ => h) (And.intro (fun _ _ _ h _ => h) (And.intro (fun _ _ _ h _ => h) (And.intro (fun _ _ _ h _ => h) (And.intro (fun _ _ _ h _ => h) (And.intro (fun _ _ _ ⟨ao, c', e, h⟩ g => ⟨ao, c', e, Sl.ext h g⟩) (And.intro (fun _ _ _ ⟨ao, c', e, h⟩ g => ⟨ao, c', e, Sl.ext h g⟩) (And.intro (fun _ _ _ h g => Rep.ext h g) (And.intro (fun _ _ _ h _ => h) (And.intro (fun _ _ _ h g => Rep.ext h g) (And.intro (fun _ _ _ h _ => h) (trivial))))))))))))))) ?_ ?_
  · refine And.intro ?_ ?_
    · intro L_ wr hX_ hs_ hf_ hd_
      refine W.step [(0, _)] (Sub.cons (hs_ _ _ rfl) (Sub.refl _)) ?_
      refine W.move rfl rfl ?_
      refine W.nil ?_
      exact At.step (Ext.refl _) rfl
    refine And.intro ?_ ?_
    · intro L_ wr hX_ hs_ hf_ hd_
      refine W.step [(1, _)] (Sub.cons (hs_ _ _ rfl) (Sub.refl _)) ?_
      refine W.move rfl rfl ?_
      refine W.nil ?_
      exact At.step (Ext.refl _) rfl
    refine And.intro ?_ ?_
    · intro L_ wr hX_ hs_ hf_ hd_
      refine W.step [(10, _)] (Sub.cons (hs_ _ _ rfl) (Sub.refl _)) ?_
      refine W.loadA rfl ((hB11.ext hX_).cells (o := 0)) Try.underlying23 rfl (by rw [List.drop_zero, List.length_map, hKl]; kernel_rfl) rfl ?_
      rw [List.drop_zero]
      refine W.nil ?_
      exact At.step (Ext.refl _) rfl
    refine And.intro ?_ ?_
    · intro L_ wr hX_ hs_ hf_ hd_
      refine W.step [(2, _)] (Sub.cons (hs_ _ _ rfl) (Sub.refl _)) ?_
      refine W.move rfl rfl ?_
      refine W.nil ?_
      exact At.step (Ext.refl _) rfl
    refine And.intro ?_ ?_
    · intro L_ wr hX_ hs_ hf_ hd_
      obtain ⟨v0, e0, r0⟩ := hd_ 0 rfl
      obtain rfl : (.int .u64 (y : Int) : Value) = v0 := Eq.symm r0
      obtain ⟨v1, e1, r1⟩ := hd_ 1 rfl
      obtain rfl : (.int .u64 (X : Int) : Value) = v1 := Eq.symm r1
      obtain ⟨v2, e2, r2⟩ := hd_ 2 rfl
      obtain rfl : (keyV K : Value) = v2 := Eq.symm r2
      obtain ⟨v3, e3, r3⟩ := hd_ 3 rfl
      obtain rfl : (.int .i64 i : Value) = v3 := Eq.symm r3
      refine W.step [(24, _), (25, _), (26, _), (27, _)] (Sub.cons (e0 _ rfl) (Sub.cons (e1 _ rfl) (Sub.cons (e2 _ rfl) (Sub.cons (e3 _ rfl) (Sub.refl _))))) ?_
      refine W.call Try.call37 rfl (Let.between_ok y X K i m _ hy hKl hm) rfl ?_
      rintro v28 w28 ⟨rfl, hX28⟩
      rw [← hT]
      refine W.nil ?_
      exact At.step hX28 rfl
    refine And.intro ?_ ?_
    · intro L_ wr hX_ hs_ hf_ hd_
      refine W.step [(10, _)] (Sub.cons (hs_ _ _ rfl) (Sub.refl _)) ?_
      refine W.sliceA X8 Try.underlying23 rfl rfl ?_
      refine W.nil ?_
      exact At.step (Ext.refl _) rfl
    refine And.intro ?_ ?_
    · intro L_ wr hX_ hs_ hf_ hd_
      refine W.step [(7, _)] (Sub.cons (hs_ _ _ rfl) (Sub.refl _)) ?_
      refine W.fieldB (off := 32) (size := 1) (t := 24) (Fld.of (by kernel_rfl)) rfl rfl rfl ?_
      refine W.nil ?_
      exact At.step (Ext.refl _) rfl
    refine And.intro ?_ ?_
    · intro L_ wr hX_ hs_ hf_ hd_
      obtain ⟨v6, e6, r6⟩ := hd_ 6 rfl
      obtain rfl : (.pointer (some ⟨g7, 32, none⟩) : Value) = v6 := Eq.symm r6
      refine W.step [(30, _)] (Sub.cons (e6 _ rfl) (Sub.refl _)) ?_
      refine W.loadB (v := .slice a b.length c) rfl Try.underlying24 rfl (hB7a.ext hX_) (letC_get hKl _) rfl ?_
      refine W.nil ?_
      exact At.step (Ext.refl _) rfl
    refine And.intro ?_ ?_
    · intro L_ wr hX_ hs_ hf_ hd_
      obtain ⟨v4, e4, r4⟩ := hd_ 4 rfl
      obtain rfl : (keyV T : Value) = v4 := Eq.symm r4
      obtain ⟨v5, e5, r5⟩ := hd_ 5 rfl
      obtain rfl : (.slice (some ⟨g10, 0, none⟩) 32 32 : Value) = v5 := Eq.symm r5
      obtain ⟨v7, e7, r7⟩ := hd_ 7 rfl
      obtain rfl : (.slice a b.length c : Value) = v7 := Eq.symm r7
      refine W.step [(28, _), (29, _), (31, _)] (Sub.cons (e4 _ rfl) (Sub.cons (e5 _ rfl) (Sub.cons (e7 _ rfl) (Sub.refl _)))) ?_
      have hs29 : Bs wr (some ⟨g10, 0, none⟩) 32 K := by
        have := Bk.bs (o := 0) (xs := K) (hB11.ext hX_) (by rw [List.drop_zero, List.take_of_length_le (by simp)])
        rwa [hKl] at this
      have hop' := Seal.Open_ok T (some ⟨g10, 0, none⟩) 32 K a c b wr hTl hs29 ((hb.ext hX11).ext hX_) (by omega) (by omega)
      rw [hKl] at hop'
      refine W.call Try.call14 rfl hop' rfl ?_
      rintro v32 w32 ⟨⟨a32, c32, rfl, hS32, _⟩, hX32⟩
      rw [decide_eq_true hop, hov]
      rw [hov] at hS32
      refine W.nil ?_
      exact At.step hX32 ⟨_, _, rfl, hS32⟩
    refine And.intro ?_ ?_
    · intro L_ wr hX_ hs_ hf_ hd_
      obtain ⟨v8, e8, r8⟩ := hd_ 8 rfl
      obtain ⟨a8, c8, rfl, hb8⟩ := r8
      refine W.step [(32, _)] (Sub.cons (e8 _ rfl) (Sub.refl _)) ?_
      refine W.move rfl rfl ?_
      refine W.nil ?_
      exact At.step (Ext.refl _) ⟨_, _, rfl, hb8⟩
    refine And.intro ?_ ?_
    · intro L_ wr hX_ hs_ hf_ hd_
      obtain ⟨v9, e9, r9⟩ := hd_ 9 rfl
      obtain ⟨a9, c9, rfl, hb9⟩ := r9
      refine W.step [(23, _)] (Sub.cons (e9 _ rfl) (Sub.refl _)) ?_
      refine W.extract rfl rfl rfl ?_
      refine W.nil ?_
      exact At.step (Ext.refl _) ⟨_, _, rfl, hb9⟩
    refine And.intro ?_ ?_
    · intro L_ wr hX_ hs_ hf_ hd_
      obtain ⟨v9, e9, r9⟩ := hd_ 9 rfl
      obtain ⟨a9, c9, rfl, hb9⟩ := r9
      refine W.step [(23, _)] (Sub.cons (e9 _ rfl) (Sub.refl _)) ?_
      refine W.extract rfl rfl rfl ?_
      refine W.nil ?_
      exact At.step (Ext.refl _) rfl
    refine And.intro ?_ ?_
    · intro L_ wr hX_ hs_ hf_ hd_
      obtain ⟨v10, e10, r10⟩ := hd_ 10 rfl
      obtain ⟨a10, c10, rfl, hb10⟩ := r10
      refine W.step [(33, _)] (Sub.cons (e10 _ rfl) (Sub.refl _)) ?_
      refine W.assign rfl rfl ?_
      refine W.nil ?_
      exact At.step (Ext.refl _) ⟨_, _, rfl, hb10⟩
    refine And.intro ?_ ?_
    · intro L_ wr hX_ hs_ hf_ hd_
      obtain ⟨v11, e11, r11⟩ := hd_ 11 rfl
      obtain rfl : (.bool true : Value) = v11 := Eq.symm r11
      refine W.step [(34, _)] (Sub.cons (e11 _ rfl) (Sub.refl _)) ?_
      refine W.assign rfl rfl ?_
      refine W.nil ?_
      exact At.step (Ext.refl _) rfl
    exact trivial
  · intro L_ wr hX4 hs_ hv_
    obtain ⟨v12, e12, r12⟩ := hv_ 12 (by decide)
    obtain ⟨a12, c12, rfl, hb12⟩ := r12
    obtain ⟨v13, e13, r13⟩ := hv_ 13 (by decide)
    obtain rfl : (.bool true : Value) = v13 := Eq.symm r13
    refine W.weaken (l' := [(11, _), (12, _), (0, _), (1, _), (2, _), (7, _), (8, _), (10, _)]) (Sub.cons (e12 _ rfl) (Sub.cons (e13 _ rfl) (Sub.cons (hs_ _ _ rfl) (Sub.cons (hs_ _ _ rfl) (Sub.cons (hs_ _ _ rfl) (Sub.cons (hs_ _ _ rfl) (Sub.cons (hs_ _ _ rfl) (Sub.cons (hs_ _ _ rfl) (Sub.nil))))))))) ?_
    refine W.nil ?_
    refine At.thenCode ?_
    refine C.seq ?_
    refine C.seq ?_
    refine C.region ?_
    refine W.move rfl rfl ?_
    first | refine W.notD rfl rfl ?_ | refine W.notB rfl rfl ?_
    refine W.eqv (v' := .bool false) (rfl) ?_
    refine W.nil ?_
    refine At.thenCode ?_
    refine C.condF rfl ?_
    refine C.skip ?_
    refine At.thenCode ?_
    refine C.seq ?_
    refine C.region ?_
    refine W.move rfl rfl ?_
    refine W.call Try.call59 rfl (Cod.ReadNote_ok a12 c12 (noteB n) _ hb12 (by omega)) rfl ?_
    rintro v40 w40 ⟨rfl, hX40⟩
    rw [hr0, hr1]
    refine W.move rfl rfl ?_
    refine W.extract rfl rfl rfl ?_
    refine W.extract rfl rfl rfl ?_
    refine W.alloc (z := .agg (noteC zeroNote).toArray) (noteC zeroNote) (by kernel_rfl) rfl rfl ?_
    intro g13 w13 hg13 hX13 hB13
    refine W.storeA (noteC n) rfl rfl hB13 (by rw [hnl]; rfl) (by rw [hnl]; kernel_rfl) (noteC_one _) ?_
    intro w14 hc14 hB14
    have hX14 : Ext w11 w14 := ((hX4.ext hX40).ext hX13).news hc14 fun k hk => Or.inr (by have := hX4.size; have := hX40.size; omega)
    have hB8b := hB8a.ext hX14
    refine W.assign rfl rfl ?_
    refine W.nil ?_
    refine At.thenCode ?_
    refine C.seq ?_
    refine C.region ?_
    refine W.loadA rfl (hB14.cells (o := 0)) Try.underlying34 rfl (by rw [List.drop_zero, hnl]; kernel_rfl) rfl ?_
    rw [List.drop_zero]
    refine W.move rfl rfl ?_
    refine W.eqlI rfl rfl rfl ?_
    refine W.eqv (bT (rfl)) ?_
    refine W.storeA (noteC n) rfl rfl hB8b (by rw [hnl]; rfl) (by rw [hnl]; kernel_rfl) (noteC_one _) ?_
    intro wz hcz hBz
    refine W.assign rfl rfl ?_
    refine W.nil ?_
    refine At.thenCode ?_
    refine C.ret ?_
    -- RESULT IN A CELL
    refine At.retCT Try.results29 rfl rfl (hBz.cells (o := 0)) Try.underlying34 rfl (by rw [List.drop_zero, hnl]; kernel_rfl) ?_
    rw [List.drop_zero]
    exact ⟨rfl, (hX11.ext hX14).news hcz fun k hk => Or.inr (by omega)⟩
end Go.Proofs.Ytkjmllohbohliaa.Let
