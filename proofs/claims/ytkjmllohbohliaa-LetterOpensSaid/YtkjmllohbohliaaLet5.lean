/- The reference's loop and talk, and package letter's Read. -/
import Derived.Test.YtkjmllohbohliaaLet4
namespace Go.Proofs.Ytkjmllohbohliaa.Let
open Go Go.RowKit Go.Proofs.Ytkjmllohbohliaa.KW Go.Proofs.Ytkjmllohbohliaa.Words Go.Proofs.Ytkjmllohbohliaa.Sha Go.Proofs.Ytkjmllohbohliaa.RSha Go.Proofs.Ytkjmllohbohliaa.Derive Go.Proofs.Ytkjmllohbohliaa.Seal Go.Proofs.Ytkjmllohbohliaa.Grp Go.Proofs.Ytkjmllohbohliaa.Cod
set_option linter.unusedVariables false
set_option linter.unusedSimpArgs false
set_option maxRecDepth 100000
theorem RLoop_ok (x : Nat) (n : Int) (m : Nat) (w : World) (hx : x < 18446744073709551616) (hm : iu 18446744073709551616 n = m) : Ct Try.prog 28 #[.int .u64 (x : Int), .int .i64 n] w (fun v w' => NewLet w w' v (nameV (timesV 37 x)) (loopB x m) ∧ Ext w w') := by
  refine Ct.enter [(0, .int .u64 (x : Int)), (1, .int .i64 n)] Try.func28 rfl rfl rfl rfl ?_
  have hkl : (loopK x m).length = 32 := keyD_length _ _
  obtain ⟨K, hK⟩ : ∃ K, K = nameV (timesV 37 x) := ⟨_, rfl⟩
  have hKl : K.length = 32 := by rw [hK]; exact nameV_length _
  have hzl := noteB_length zeroNoteOk
  refine C.seq ?_
  refine C.region ?_
  refine W.alloc (z := .agg zeroLetC.toArray) zeroLetC (by kernel_rfl) rfl rfl ?_
  intro g4 w4 hg4 hX4 hB4
  refine W.nil ?_
  refine At.thenCode ?_
  refine C.seq ?_
  refine C.region ?_
  refine W.move rfl rfl ?_
  refine W.call Try.call19 rfl (Grp.RBase_ok _ (by first | omega | decide) _) rfl ?_
  rintro v w' ⟨rfl, rfl⟩
  refine W.call Try.call22 rfl (Let.RName_ok _ _) rfl ?_
  rintro v9 w9 ⟨rfl, hX9⟩
  rw [← hK]
  refine W.alloc (z := .agg (List.replicate 32 (byteV 0)).toArray) (List.replicate 32 (byteV 0)) (by kernel_rfl) rfl rfl ?_
  intro g5 w5 hg5 hX5 hB5
  refine W.storeA (K.map byteV) rfl rfl hB5 (by rw [List.length_map, hKl]; rfl) (by rw [List.length_map, hKl]; kernel_rfl) (bytes_oneCell _) ?_
  intro w6 hc6 hB6
  have hl4 := hB4.lt
  have hs9 := hX9.size
  have hX6 : Ext w w6 := ((hX4.ext hX9).ext hX5).news hc6 fun k hk => Or.inr (by have := hX4.size; omega)
  have hB4a : Bk w6 g4 zeroLetC := ((hB4.ext hX9).ext hX5).chg hc6 (by omega)
  refine W.nil ?_
  refine At.thenCode ?_
  refine C.seq ?_
  refine C.region ?_
  refine W.move rfl rfl ?_
  refine W.call Try.call58 rfl (Words.RPut64_ok none 0 [] x _ (Sl.none _ _) (by simp)) rfl ?_
  rintro v11 w11 ⟨hO11, hX11⟩
  rw [List.nil_append] at hO11
  obtain ⟨a11, c11, rfl, hS11, _⟩ := ownsRow_form hO11
  refine W.move rfl rfl ?_
  refine W.convIU (M := 18446744073709551616) rfl Try.underlying3 Try.underlying32 rfl rfl rfl ?_
  rw [hm]
  refine W.call Try.call58 rfl (Words.RPut64_ok _ _ _ m _ hS11 (by rw [be64_length]; decide)) rfl ?_
  rintro v14 w14 ⟨hO14, hX14⟩
  obtain ⟨a14, c14, rfl, hS14, _⟩ := ownsRow_form hO14
  refine W.call Try.call52 rfl (Derive.RKey_ok _ _ _ loopS _ hS14 (by rw [List.length_append, be64_length, be64_length]; decide) (by decide)) rfl ?_
  rintro v15 w15 ⟨rfl, hX15⟩
  refine W.alloc (z := .agg (List.replicate 32 (byteV 0)).toArray) (List.replicate 32 (byteV 0)) (by kernel_rfl) rfl rfl ?_
  intro g6 w16 hg16 hX16 hB16
  refine W.storeA ((loopK x m).map byteV) rfl rfl hB16 (by rw [List.length_map, hkl]; rfl) (by rw [List.length_map, hkl]; kernel_rfl) (bytes_oneCell _) ?_
  intro w7 hc7 hB7
  have hX67 : Ext w6 w7 := (((hX11.ext hX14).ext hX15).ext hX16).news hc7 fun k hk => Or.inr (by have := hX11.size; have := hX14.size; have := hX15.size; omega)
  have hX7 := hX6.ext hX67
  have hB4b := hB4a.ext hX67
  have hB5b := hB6.ext hX67
  refine W.nil ?_
  refine At.thenCode ?_
  refine C.seq ?_
  refine C.regionAny 8 ((fun v w => v = keyV K) :: (fun v w => v = keyV (loopK x m)) :: (fun v w => v = keyV K) :: (fun v w => Rep w v K) :: (fun v w => v = .agg (noteC zeroNote).toArray) :: (fun v w => Rep w v (noteB zeroNote)) :: (fun v w => ∃ a c, v = .slice a (loopB x m).length c ∧ Bs w a c (loopB x m) ∧ ∀ ad, a = some ad → w7.heap.size ≤ ad.block) :: (fun v w => NewLet w7 w v K (loopB x m)) :: []) [(4, .pointer (some ⟨g4, 0, none⟩)), (5, .pointer (some ⟨g5, 0, none⟩)), (6, .pointer (some ⟨g6, 0, none⟩))] [] (Sub.cons (rfl) (Sub.cons (rfl) (Sub.cons (rfl) (Sub.nil)))) (Sub.nil) (Sub.cons (rfl) (Sub.cons (rfl) (Sub.cons (rfl) (Sub.nil)))) (by kernel_rfl) rfl rfl rfl (And.intro (fun _ _ _ h _ => h) (And.intro (fun _ _ _ h _ => h) (And.intro (fun _ _ _ h _ => h) (And.intro (fun _ _ _ h g => Rep.ext h g) (And.intro (fun _ _ _ h _ => h) (And.intro (fun _ _ _ h g => Rep.ext h g) (And.intro (fun _ _ _ ⟨a, c, e, h, q⟩ g => ⟨a, c, e, Sl.ext h g, q⟩) (And.intro (fun _ _ _ ⟨a, c, e, h, q⟩ g => ⟨a, c, e, Sl.ext h g, q⟩) (trivial))))))))) ?_ ?_
  · refine And.intro ?_ ?_
    · intro L_ wr hX_ hs_ hf_ hd_
      refine W.step [(5, _)] (Sub.cons (hs_ _ _ rfl) (Sub.refl _)) ?_
      refine W.loadA rfl ((hB5b.ext hX_).cells (o := 0)) Try.underlying23 rfl (by rw [List.drop_zero, List.length_map, hKl]; kernel_rfl) rfl ?_
      rw [List.drop_zero]
      refine W.nil ?_
      exact At.step (Ext.refl _) rfl
    refine And.intro ?_ ?_
    · intro L_ wr hX_ hs_ hf_ hd_
      refine W.step [(6, _)] (Sub.cons (hs_ _ _ rfl) (Sub.refl _)) ?_
      refine W.loadA rfl ((hB7.ext hX_).cells (o := 0)) Try.underlying23 rfl (by rw [List.drop_zero, List.length_map, hkl]; kernel_rfl) rfl ?_
      rw [List.drop_zero]
      refine W.nil ?_
      exact At.step (Ext.refl _) rfl
    refine And.intro ?_ ?_
    · intro L_ wr hX_ hs_ hf_ hd_
      refine W.step [(5, _)] (Sub.cons (hs_ _ _ rfl) (Sub.refl _)) ?_
      refine W.loadA rfl ((hB5b.ext hX_).cells (o := 0)) Try.underlying23 rfl (by rw [List.drop_zero, List.length_map, hKl]; kernel_rfl) rfl ?_
      rw [List.drop_zero]
      refine W.nil ?_
      exact At.step (Ext.refl _) rfl
    refine And.intro ?_ ?_
    · intro L_ wr hX_ hs_ hf_ hd_
      obtain ⟨v2, e2, r2⟩ := hd_ 2 rfl
      obtain rfl : (keyV K : Value) = v2 := Eq.symm r2
      refine W.step [(18, _)] (Sub.cons (e2 _ rfl) (Sub.refl _)) ?_
      refine W.call Try.call53 rfl (Let.bytes12_ok K hKl _) rfl ?_
      rintro v19 w19 ⟨hO19, hX19⟩
      obtain ⟨a19, c19, rfl, hS19, _⟩ := ownsRow_form hO19
      refine W.nil ?_
      exact At.step hX19 ⟨_, _, rfl, hS19⟩
    refine And.intro ?_ ?_
    · intro L_ wr hX_ hs_ hf_ hd_
      refine W.step [] (Sub.refl _) ?_
      refine W.buildS (fs := _) [(0, 1), (1, 1), (2, 32)] (noteC zeroNote) (noteC zeroNote) Try.underlying34 (by kernel_rfl) (by kernel_rfl) rfl rfl rfl ?_
      refine W.nil ?_
      exact At.step (Ext.refl _) rfl
    refine And.intro ?_ ?_
    · intro L_ wr hX_ hs_ hf_ hd_
      obtain ⟨v4, e4, r4⟩ := hd_ 4 rfl
      obtain rfl : (.agg (noteC zeroNote).toArray : Value) = v4 := Eq.symm r4
      refine W.step [(20, _)] (Sub.cons (e4 _ rfl) (Sub.refl _)) ?_
      refine W.call Try.call57 rfl (Cod.RNote_ok zeroNote _ zeroNoteOk) rfl ?_
      rintro v21 w21 ⟨a21, c21, rfl, hN21, hX21⟩
      refine W.nil ?_
      exact At.step hX21 ⟨_, _, rfl, hN21.1⟩
    refine And.intro ?_ ?_
    · intro L_ wr hX_ hs_ hf_ hd_
      obtain ⟨v1, e1, r1⟩ := hd_ 1 rfl
      obtain rfl : (keyV (loopK x m) : Value) = v1 := Eq.symm r1
      obtain ⟨v3, e3, r3⟩ := hd_ 3 rfl
      obtain ⟨a3', c3', rfl, hb3⟩ := r3
      obtain ⟨v5, e5, r5⟩ := hd_ 5 rfl
      obtain ⟨a4', c4', rfl, hb4⟩ := r5
      refine W.step [(17, _), (19, _), (21, _)] (Sub.cons (e1 _ rfl) (Sub.cons (e3 _ rfl) (Sub.cons (e5 _ rfl) (Sub.refl _)))) ?_
      refine W.call Try.call15 rfl (Seal.RSeal_ok (loopK x m) a3' c3' K _ _ (noteB zeroNote) wr hkl hb3 hb4 (by omega) (by omega)) rfl ?_
      rintro v22 w22 ⟨hO22, hX22⟩
      rw [show sealV (loopK x m) K (noteB zeroNote) = loopB x m from by rw [hK]; rfl] at hO22
      obtain ⟨a22, c22, rfl, hS22, hb22⟩ := ownsRow_form hO22
      refine W.nil ?_
      exact At.step hX22 ⟨_, _, rfl, hS22, fun ad e => Nat.le_trans hX_.size (hb22 ad e)⟩
    refine And.intro ?_ ?_
    · intro L_ wr hX_ hs_ hf_ hd_
      obtain ⟨v0, e0, r0⟩ := hd_ 0 rfl
      obtain rfl : (keyV K : Value) = v0 := Eq.symm r0
      obtain ⟨v6, e6, r6⟩ := hd_ 6 rfl
      obtain ⟨a5, c5, rfl, hb5, hq5⟩ := r6
      refine W.step [(16, _), (22, _)] (Sub.cons (e0 _ rfl) (Sub.cons (e6 _ rfl) (Sub.refl _))) ?_
      refine W.buildS (fs := _) [(0, 32), (32, 1)] (letC K (.slice a5 (loopB x m).length c5)) zeroLetC Try.underlying36 (by kernel_rfl) (by kernel_rfl) rfl (by rw [fill_cons (us := K.map byteV) (off := 0) rfl (by rw [List.length_map, hKl]; rfl) (by rw [List.length_map, hKl]; decide), splice_key hKl, fill_cons (us := [Value.slice a5 (loopB x m).length c5]) (off := 32) rfl rfl (by rw [letC_length hKl]; exact Nat.le_refl _), splice_box hKl]; rfl) rfl ?_
      refine W.nil ?_
      exact At.step (Ext.refl _) ⟨a5, c5, rfl, hb5, hq5⟩
    exact trivial
  · intro L_ wr hX3 hs_ hv_
    obtain ⟨v7, e7, r7⟩ := hv_ 7 (by decide)
    obtain ⟨a6, c6, rfl, hb6, hq6⟩ := r7
    refine W.weaken (l' := [(23, _), (4, _), (5, _), (6, _)]) (Sub.cons (e7 _ rfl) (Sub.cons (hs_ _ _ rfl) (Sub.cons (hs_ _ _ rfl) (Sub.cons (hs_ _ _ rfl) (Sub.nil))))) ?_
    refine W.storeA (letC K (.slice a6 (loopB x m).length c6)) rfl rfl (hB4b.ext hX3) (by rw [letC_length hKl]; rfl) (by rw [letC_length hKl]; kernel_rfl) (letC_one _ _ _ _) ?_
    intro wz hcz hBz
    refine W.nil ?_
    refine At.thenCode ?_
    refine C.ret ?_
    -- RESULT IN A CELL
    have hs7 := hX7.size
    refine At.retC Try.results28 rfl (hBz.cells (o := 0)) Try.underlying36 rfl (by rw [List.drop_zero, letC_length hKl]; kernel_rfl) ⟨⟨a6, c6, by rw [List.drop_zero, hK], Sl.chg hb6 hcz (fun ad e _ hk => ?_), fun ad e => ?_⟩, ?_⟩
    · have := hq6 ad e
      have := hB4b.lt
      omega
    · have := hq6 ad e
      omega
    · exact (hX7.ext hX3).news hcz (fun k hk => Or.inr (by omega))
theorem RTalk_ok (x y : Nat) (i : Int) (m : Nat) (n : NoteD) (w : World) (hx : x < 18446744073709551616) (hm : iu 18446744073709551616 i = m) (hn : NoteOk n) :
    Ct Try.prog 27 #[.int .u64 (x : Int), .int .u64 (y : Int), .int .i64 i, .agg (noteC n).toArray] w (fun v w' => NewLet w w' v (nameV y) (talkB x y m n) ∧ Ext w w') := by
  refine Ct.enter [(0, .int .u64 (x : Int)), (1, .int .u64 (y : Int)), (2, .int .i64 i), (3, .agg (noteC n).toArray)] Try.func27 rfl rfl rfl rfl ?_
  have hnl := noteC_length hn
  have hbl := noteB_length hn
  obtain ⟨K, hK⟩ : ∃ K, K = nameV y := ⟨_, rfl⟩
  have hKl : K.length = 32 := by rw [hK]; exact nameV_length _
  obtain ⟨T, hT⟩ : ∃ T, T = betweenV x y K m := ⟨_, rfl⟩
  have hTl : T.length = 32 := by rw [hT]; exact keyD_length _ _
  have htb : talkB x y m n = sealV T K (noteB n) := by rw [hT, hK]; rfl
  rw [htb]
  obtain ⟨B, hB⟩ : ∃ B, B = sealV T K (noteB n) := ⟨_, rfl⟩
  rw [← hB]
  refine C.seq ?_
  refine C.region ?_
  refine W.box (noteC n) rfl rfl rfl ?_
  intro g7 w7 hg7 hX7 hB7
  refine W.alloc (z := .agg zeroLetC.toArray) zeroLetC (by kernel_rfl) rfl rfl ?_
  intro g8 w8 hg8 hX8 hB8
  refine W.nil ?_
  refine At.thenCode ?_
  refine C.seq ?_
  refine C.region ?_
  refine W.move rfl rfl ?_
  refine W.call Try.call22 rfl (Let.RName_ok _ _) rfl ?_
  rintro v12 w12 ⟨rfl, hX12⟩
  rw [← hK]
  refine W.alloc (z := .agg (List.replicate 32 (byteV 0)).toArray) (List.replicate 32 (byteV 0)) (by kernel_rfl) rfl rfl ?_
  intro g9 w9 hg9 hX9 hB9
  refine W.storeA (K.map byteV) rfl rfl hB9 (by rw [List.length_map, hKl]; rfl) (by rw [List.length_map, hKl]; kernel_rfl) (bytes_oneCell _) ?_
  intro w10 hc10 hB10
  have hl8 := hB8.lt
  have hl7 := hB7.lt
  have hs7 := hX7.size
  have hs8 := hX8.size
  have hs11 := hX12.size
  have hX10 : Ext w w10 := (((hX7.ext hX8).ext hX12).ext hX9).news hc10 fun k hk => Or.inr (by omega)
  have hB8a : Bk w10 g8 zeroLetC := ((hB8.ext hX12).ext hX9).chg hc10 (by omega)
  have hB7a : Bk w10 g7 (noteC n) := (((hB7.ext hX8).ext hX12).ext hX9).chg hc10 (by omega)
  refine W.nil ?_
  refine At.thenCode ?_
  refine C.seq ?_
  refine C.regionAny 7 ((fun v w => v = .int .u64 (y : Int)) :: (fun v w => v = .int .u64 (x : Int)) :: (fun v w => v = .int .u64 ((timesV y x : Nat) : Int)) :: (fun v w => v = keyV K) :: (fun v w => v = .int .i64 i) :: (fun v w => v = keyV T) :: (fun v w => ∃ g, v = .pointer (some ⟨g, 0, none⟩) ∧ w10.heap.size ≤ g ∧ Bk w g (List.replicate 32 (byteV 0))) :: []) [(0, .int .u64 (x : Int)), (1, .int .u64 (y : Int)), (2, .int .i64 i), (7, .pointer (some ⟨g7, 0, none⟩)), (8, .pointer (some ⟨g8, 0, none⟩)), (9, .pointer (some ⟨g9, 0, none⟩))] [] (Sub.cons (rfl) (Sub.cons (rfl) (Sub.cons (rfl) (Sub.cons (rfl) (Sub.cons (rfl) (Sub.cons (rfl) (Sub.nil))))))) (Sub.nil) (Sub.cons (rfl) (Sub.cons (rfl) (Sub.cons (rfl) (Sub.cons (rfl) (Sub.cons (rfl) (Sub.cons (rfl) (Sub.nil))))))) (by kernel_rfl) rfl rfl rfl (And.intro (fun _ _ _ h _ => h) (And.intro (fun _ _ _ h _ => h) (And.intro (fun _ _ _ h _ => h) (And.intro (fun _ _ _ h _ => h) (And.intro (fun _ _ _ h _ => h) (And.intro (fun _ _ _ h _ => h) (And.intro (fun _ _ _ ⟨g, e, q, h⟩ x => ⟨g, e, q, h.ext x⟩) (trivial)))))))) ?_ ?_
  · refine And.intro ?_ ?_
    · intro L_ wq hX_ hs_ hf_ hd_
      refine W.step [(1, _)] (Sub.cons (hs_ _ _ rfl) (Sub.refl _)) ?_
      refine W.move rfl rfl ?_
      refine W.nil ?_
      exact At.step (Ext.refl _) rfl
    refine And.intro ?_ ?_
    · intro L_ wq hX_ hs_ hf_ hd_
      refine W.step [(0, _)] (Sub.cons (hs_ _ _ rfl) (Sub.refl _)) ?_
      refine W.move rfl rfl ?_
      refine W.nil ?_
      exact At.step (Ext.refl _) rfl
    refine And.intro ?_ ?_
    · intro L_ wq hX_ hs_ hf_ hd_
      obtain ⟨v0, e0, r0⟩ := hd_ 0 rfl
      obtain rfl : (.int .u64 (y : Int) : Value) = v0 := Eq.symm r0
      obtain ⟨v1, e1, r1⟩ := hd_ 1 rfl
      obtain rfl : (.int .u64 (x : Int) : Value) = v1 := Eq.symm r1
      refine W.step [(13, _), (14, _)] (Sub.cons (e0 _ rfl) (Sub.cons (e1 _ rfl) (Sub.refl _))) ?_
      refine W.call Try.call39 rfl (Grp.RTimes_ok y x hx _) rfl ?_
      rintro v15 w15 ⟨rfl, rfl⟩
      refine W.nil ?_
      exact At.step (Ext.refl _) rfl
    refine And.intro ?_ ?_
    · intro L_ wq hX_ hs_ hf_ hd_
      refine W.step [(9, _)] (Sub.cons (hs_ _ _ rfl) (Sub.refl _)) ?_
      refine W.loadA rfl ((hB10.ext hX_).cells (o := 0)) Try.underlying23 rfl (by rw [List.drop_zero, List.length_map, hKl]; kernel_rfl) rfl ?_
      rw [List.drop_zero]
      refine W.nil ?_
      exact At.step (Ext.refl _) rfl
    refine And.intro ?_ ?_
    · intro L_ wq hX_ hs_ hf_ hd_
      refine W.step [(2, _)] (Sub.cons (hs_ _ _ rfl) (Sub.refl _)) ?_
      refine W.move rfl rfl ?_
      refine W.nil ?_
      exact At.step (Ext.refl _) rfl
    refine And.intro ?_ ?_
    · intro L_ wq hX_ hs_ hf_ hd_
      obtain ⟨v2, e2, r2⟩ := hd_ 2 rfl
      obtain rfl : (.int .u64 ((timesV y x : Nat) : Int) : Value) = v2 := Eq.symm r2
      obtain ⟨v3, e3, r3⟩ := hd_ 3 rfl
      obtain rfl : (keyV K : Value) = v3 := Eq.symm r3
      obtain ⟨v4, e4, r4⟩ := hd_ 4 rfl
      obtain rfl : (.int .i64 i : Value) = v4 := Eq.symm r4
      refine W.step [(15, _), (16, _), (17, _)] (Sub.cons (e2 _ rfl) (Sub.cons (e3 _ rfl) (Sub.cons (e4 _ rfl) (Sub.refl _)))) ?_
      refine W.call Try.call56 rfl (Let.talked_ok (timesV y x) K i m _ hKl hm) rfl ?_
      rintro v18 w18 ⟨rfl, hX18⟩
      rw [show keyD ((be64 (timesV y x) ++ K) ++ be64 m) noteS = T from by rw [hT]; rfl]
      refine W.nil ?_
      exact At.step hX18 rfl
    refine And.intro ?_ ?_
    · intro L_ wq hX_ hs_ hf_ hd_
      refine W.step [] (Sub.refl _) ?_
      refine W.alloc (z := .agg (List.replicate 32 (byteV 0)).toArray) (List.replicate 32 (byteV 0)) (by kernel_rfl) rfl rfl ?_
      intro g10' w10' hg10' hX10' hB10'
      refine W.nil ?_
      exact At.step hX10' ⟨g10', rfl, by have := hX_.size; omega, hB10'⟩
    exact trivial
  · intro L_ wq hX2 hs_ hv_
    obtain ⟨v6, e6, r6⟩ := hv_ 6 (by decide)
    obtain ⟨g10, rfl, hg10, hB10z⟩ := r6
    obtain ⟨v5, e5, r5⟩ := hv_ 5 (by decide)
    obtain rfl : (keyV T : Value) = v5 := Eq.symm r5
    refine W.weaken (l' := [(10, _), (18, _), (0, _), (1, _), (2, _), (7, _), (8, _), (9, _)]) (Sub.cons (e6 _ rfl) (Sub.cons (e5 _ rfl) (Sub.cons (hs_ _ _ rfl) (Sub.cons (hs_ _ _ rfl) (Sub.cons (hs_ _ _ rfl) (Sub.cons (hs_ _ _ rfl) (Sub.cons (hs_ _ _ rfl) (Sub.cons (hs_ _ _ rfl) (Sub.nil))))))))) ?_
    refine W.storeA (T.map byteV) rfl rfl hB10z (by rw [List.length_map, hTl]; rfl) (by rw [List.length_map, hTl]; kernel_rfl) (bytes_oneCell _) ?_
    intro w12 hc12 hB12
    have hX12w : Ext w10 w12 := hX2.news hc12 fun k hk => Or.inr (by omega)
    have hXt := hX10.ext hX12w
    have hB8b := hB8a.ext hX12w
    have hB7b := hB7a.ext hX12w
    have hB9b := hB10.ext hX12w
    refine W.nil ?_
    refine At.thenCode ?_
    refine C.seq ?_
    refine C.regionAny 8 ((fun v w => v = keyV K) :: (fun v w => v = keyV T) :: (fun v w => v = keyV K) :: (fun v w => Rep w v K) :: (fun v w => v = .agg (noteC n).toArray) :: (fun v w => Rep w v (noteB n)) :: (fun v w => ∃ a c, v = .slice a B.length c ∧ Bs w a c B ∧ ∀ ad, a = some ad → w12.heap.size ≤ ad.block) :: (fun v w => NewLet w12 w v K B) :: []) [(7, .pointer (some ⟨g7, 0, none⟩)), (8, .pointer (some ⟨g8, 0, none⟩)), (9, .pointer (some ⟨g9, 0, none⟩)), (10, .pointer (some ⟨g10, 0, none⟩))] [] (Sub.cons (rfl) (Sub.cons (rfl) (Sub.cons (rfl) (Sub.cons (rfl) (Sub.nil))))) (Sub.nil) (Sub.cons (rfl) (Sub.cons (rfl) (Sub.cons (rfl) (Sub.cons (rfl) (Sub.nil))))) (by kernel_rfl) rfl rfl rfl (And.intro (fun _ _ _ h _ => h) (And.intro (fun _ _ _ h _ => h) (And.intro (fun _ _ _ h _ => h) (And.intro (fun _ _ _ h g => Rep.ext h g) (And.intro (fun _ _ _ h _ => h) (And.intro (fun _ _ _ h g => Rep.ext h g) (And.intro (fun _ _ _ ⟨a, c, e, h, q⟩ g => ⟨a, c, e, Sl.ext h g, q⟩) (And.intro (fun _ _ _ ⟨a, c, e, h, q⟩ g => ⟨a, c, e, Sl.ext h g, q⟩) (trivial))))))))) ?_ ?_
    · refine And.intro ?_ ?_
      · intro L_ wr hX_ hs_ hf_ hd_
        refine W.step [(9, _)] (Sub.cons (hs_ _ _ rfl) (Sub.refl _)) ?_
        refine W.loadA rfl ((hB9b.ext hX_).cells (o := 0)) Try.underlying23 rfl (by rw [List.drop_zero, List.length_map, hKl]; kernel_rfl) rfl ?_
        rw [List.drop_zero]
        refine W.nil ?_
        exact At.step (Ext.refl _) rfl
      refine And.intro ?_ ?_
      · intro L_ wr hX_ hs_ hf_ hd_
        refine W.step [(10, _)] (Sub.cons (hs_ _ _ rfl) (Sub.refl _)) ?_
        refine W.loadA rfl ((hB12.ext hX_).cells (o := 0)) Try.underlying23 rfl (by rw [List.drop_zero, List.length_map, hTl]; kernel_rfl) rfl ?_
        rw [List.drop_zero]
        refine W.nil ?_
        exact At.step (Ext.refl _) rfl
      refine And.intro ?_ ?_
      · intro L_ wr hX_ hs_ hf_ hd_
        refine W.step [(9, _)] (Sub.cons (hs_ _ _ rfl) (Sub.refl _)) ?_
        refine W.loadA rfl ((hB9b.ext hX_).cells (o := 0)) Try.underlying23 rfl (by rw [List.drop_zero, List.length_map, hKl]; kernel_rfl) rfl ?_
        rw [List.drop_zero]
        refine W.nil ?_
        exact At.step (Ext.refl _) rfl
      refine And.intro ?_ ?_
      · intro L_ wr hX_ hs_ hf_ hd_
        obtain ⟨v2, e2, r2⟩ := hd_ 2 rfl
        obtain rfl : (keyV K : Value) = v2 := Eq.symm r2
        refine W.step [(21, _)] (Sub.cons (e2 _ rfl) (Sub.refl _)) ?_
        refine W.call Try.call53 rfl (Let.bytes12_ok K hKl _) rfl ?_
        rintro v22 w22 ⟨hO22, hX22⟩
        obtain ⟨a22, c22, rfl, hS22, _⟩ := ownsRow_form hO22
        refine W.nil ?_
        exact At.step hX22 ⟨_, _, rfl, hS22⟩
      refine And.intro ?_ ?_
      · intro L_ wr hX_ hs_ hf_ hd_
        refine W.step [(7, _)] (Sub.cons (hs_ _ _ rfl) (Sub.refl _)) ?_
        refine W.loadA rfl ((hB7b.ext hX_).cells (o := 0)) Try.underlying34 rfl (by rw [List.drop_zero, hnl]; kernel_rfl) rfl ?_
        rw [List.drop_zero]
        refine W.nil ?_
        exact At.step (Ext.refl _) rfl
      refine And.intro ?_ ?_
      · intro L_ wr hX_ hs_ hf_ hd_
        obtain ⟨v4, e4, r4⟩ := hd_ 4 rfl
        obtain rfl : (.agg (noteC n).toArray : Value) = v4 := Eq.symm r4
        refine W.step [(23, _)] (Sub.cons (e4 _ rfl) (Sub.refl _)) ?_
        refine W.call Try.call57 rfl (Cod.RNote_ok n _ hn) rfl ?_
        rintro v24 w24 ⟨a24, c24, rfl, hN24, hX24⟩
        refine W.nil ?_
        exact At.step hX24 ⟨_, _, rfl, hN24.1⟩
      refine And.intro ?_ ?_
      · intro L_ wr hX_ hs_ hf_ hd_
        obtain ⟨v1, e1, r1⟩ := hd_ 1 rfl
        obtain rfl : (keyV T : Value) = v1 := Eq.symm r1
        obtain ⟨v3, e3, r3⟩ := hd_ 3 rfl
        obtain ⟨a3', c3', rfl, hb3⟩ := r3
        obtain ⟨v5, e5, r5⟩ := hd_ 5 rfl
        obtain ⟨a8', c8', rfl, hb8⟩ := r5
        refine W.step [(20, _), (22, _), (24, _)] (Sub.cons (e1 _ rfl) (Sub.cons (e3 _ rfl) (Sub.cons (e5 _ rfl) (Sub.refl _)))) ?_
        refine W.call Try.call15 rfl (Seal.RSeal_ok T a3' c3' K _ _ (noteB n) wr hTl hb3 hb8 (by omega) (by omega)) rfl ?_
        rintro v25 w25 ⟨hO25, hX25⟩
        rw [← hB] at hO25
        obtain ⟨a25, c25, rfl, hS25, hb25⟩ := ownsRow_form hO25
        refine W.nil ?_
        exact At.step hX25 ⟨_, _, rfl, hS25, fun ad e => Nat.le_trans hX_.size (hb25 ad e)⟩
      refine And.intro ?_ ?_
      · intro L_ wr hX_ hs_ hf_ hd_
        obtain ⟨v0, e0, r0⟩ := hd_ 0 rfl
        obtain rfl : (keyV K : Value) = v0 := Eq.symm r0
        obtain ⟨v6, e6, r6⟩ := hd_ 6 rfl
        obtain ⟨a9, c9, rfl, hb9, hq9⟩ := r6
        refine W.step [(19, _), (25, _)] (Sub.cons (e0 _ rfl) (Sub.cons (e6 _ rfl) (Sub.refl _))) ?_
        refine W.buildS (fs := _) [(0, 32), (32, 1)] (letC K (.slice a9 B.length c9)) zeroLetC Try.underlying36 (by kernel_rfl) (by kernel_rfl) rfl (by rw [fill_cons (us := K.map byteV) (off := 0) rfl (by rw [List.length_map, hKl]; rfl) (by rw [List.length_map, hKl]; decide), splice_key hKl, fill_cons (us := [Value.slice a9 B.length c9]) (off := 32) rfl rfl (by rw [letC_length hKl]; exact Nat.le_refl _), splice_box hKl]; rfl) rfl ?_
        refine W.nil ?_
        exact At.step (Ext.refl _) ⟨a9, c9, rfl, hb9, hq9⟩
      exact trivial
    · intro L_ wr hX3 hs_ hv_
      obtain ⟨v7, e7, r7⟩ := hv_ 7 (by decide)
      obtain ⟨a10, c10, rfl, hb10, hq10⟩ := r7
      refine W.weaken (l' := [(26, _), (7, _), (8, _), (9, _), (10, _)]) (Sub.cons (e7 _ rfl) (Sub.cons (hs_ _ _ rfl) (Sub.cons (hs_ _ _ rfl) (Sub.cons (hs_ _ _ rfl) (Sub.cons (hs_ _ _ rfl) (Sub.nil)))))) ?_
      refine W.storeA (letC K (.slice a10 B.length c10)) rfl rfl (hB8b.ext hX3) (by rw [letC_length hKl]; rfl) (by rw [letC_length hKl]; kernel_rfl) (letC_one _ _ _ _) ?_
      intro wz hcz hBz
      refine W.nil ?_
      refine At.thenCode ?_
      refine C.ret ?_
      -- RESULT IN A CELL
      have hs12 := hXt.size
      refine At.retC Try.results27 rfl (hBz.cells (o := 0)) Try.underlying36 rfl (by rw [List.drop_zero, letC_length hKl]; kernel_rfl) ⟨⟨a10, c10, by rw [List.drop_zero, hK], Sl.chg hb10 hcz (fun ad e _ hk => ?_), fun ad e => ?_⟩, ?_⟩
      · have := hq10 ad e
        have := hB8b.lt
        omega
      · have := hq10 ad e
        omega
      · exact (hXt.ext hX3).news hcz (fun k hk => Or.inr (by omega))
end Go.Proofs.Ytkjmllohbohliaa.Let
