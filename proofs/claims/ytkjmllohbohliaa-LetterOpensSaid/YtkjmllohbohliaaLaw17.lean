/- The walks of chapter 17's laws: letters look alike. -/
import Derived.Test.YtkjmllohbohliaaLet3
namespace Go.Proofs.Ytkjmllohbohliaa.Law17
open Go Go.RowKit Go.Proofs.Ytkjmllohbohliaa.KW Go.Proofs.Ytkjmllohbohliaa.Words Go.Proofs.Ytkjmllohbohliaa.Sha Go.Proofs.Ytkjmllohbohliaa.RSha Go.Proofs.Ytkjmllohbohliaa.Derive Go.Proofs.Ytkjmllohbohliaa.Seal Go.Proofs.Ytkjmllohbohliaa.Grp Go.Proofs.Ytkjmllohbohliaa.Cod Go.Proofs.Ytkjmllohbohliaa.Let
set_option linter.unusedVariables false
set_option linter.unusedSimpArgs false
set_option maxRecDepth 100000
theorem name_ne : nameV (timesV 37 1) ≠ List.replicate 32 0 := by decide +kernel
theorem alive_ok (w : World) : Ct Try.prog 17 #[] w (fun v w' => v = .bool true ∧ Ext w w') := by
  refine Ct.enter [] Try.func17 rfl rfl rfl rfl ?_
  have hlb := loopB_length 1 2
  have hkl := nameV_length (timesV 37 1)
  have hne := name_ne
  obtain ⟨K, hK⟩ : ∃ K, K = nameV (timesV 37 1) := ⟨_, rfl⟩
  rw [← hK] at hkl hne
  refine C.seq ?_
  refine C.region ?_
  refine W.assign rfl rfl ?_
  refine W.nil ?_
  refine At.thenCode ?_
  refine C.seq ?_
  refine C.region ?_
  refine W.call Try.call20 rfl (Let.Loop_ok 1 2 2 _ (by decide) (by decide)) rfl ?_
  rintro v1 w1 ⟨⟨a1, c1, rfl, hb1, _⟩, hX1⟩
  rw [← hK]
  refine W.field1 (off := 32) (t := 24) (Fld.of (by kernel_rfl)) (by kernel_rfl) rfl (letC_get hkl _) rfl ?_
  refine W.lenS rfl Try.underlying24 rfl ?_
  refine W.eqlI rfl rfl rfl ?_
  refine W.eqv (bT (by rw [hlb]; rfl)) ?_
  refine W.move rfl rfl ?_
  refine W.wants rfl rfl rfl rfl ?_
  refine W.call Try.call20 rfl (Let.Loop_ok 1 2 2 _ (by decide) (by decide)) rfl ?_
  rintro v6 w6 ⟨⟨a6, c6, rfl, hb6, _⟩, hX6⟩
  rw [← hK]
  refine W.wants rfl rfl rfl rfl ?_
  refine W.fieldN (off := 0) (size := 32) (t := 23) (Fld.of (by kernel_rfl)) (by kernel_rfl) rfl rfl ?_
  rw [show ((letC K (.slice a6 (loopB 1 2).length c6)).drop 0).take 32 = K.map byteV from by unfold letC; rw [List.drop_zero, List.take_append_of_le_length (by simp [hkl]), List.take_of_length_le (by simp [hkl])]]
  refine W.wants rfl rfl rfl rfl ?_
  refine W.buildAF ((List.replicate 32 (0 : UInt8)).map byteV) (List.replicate 32 (byteV 0)) X8 Try.underlying23 (by kernel_rfl) rfl rfl rfl ?_
  refine W.wants rfl rfl rfl rfl ?_
  refine W.neqKey (a := K) (b := List.replicate 32 0) (n := 32) Try.underlying23 Try.underlying5 (by kernel_rfl) rfl rfl hkl rfl (by kernel_rfl) rfl ?_
  refine W.eqv (bT (hne)) ?_
  refine W.pickT rfl rfl rfl ?_
  refine W.assign rfl rfl ?_
  refine W.nil ?_
  refine At.thenCode ?_
  refine C.ret ?_
  refine At.ret1 Try.results17 rfl ?_
  exact ⟨rfl, hX1.ext hX6⟩
/-- A row longer than a block lies not in it. -/
theorem bs_ne {w : World} {ad : Addr} {c g : Nat} {xs : List UInt8} {cs : List Value} (hs : Bs w (some ad) c xs) (hb : Bk w g cs) (hl : cs.length < xs.length) : ad.block ≠ g := by
  rintro rfl
  have h1 := hs.at_ ad rfl cs.length (byteV xs[cs.length]) (by rw [List.getElem?_map, List.getElem?_eq_getElem hl]; rfl)
  obtain ⟨e, hb⟩ := hb
  have hoff : (ad.add cs.length).off = ad.off + cs.length := by unfold Addr.add; split <;> simp_all
  unfold World.cell? at h1
  rw [add_block, hb] at h1
  simp only [hoff] at h1
  split at h1
  · cases h1
  · have := (Array.getElem?_eq_some_iff.1 h1).1
    simp at this
    omega
theorem bs_keep {w w' : World} {a : Option Addr} {c g : Nat} {xs : List UInt8} {cs : List Value} (hs : Bs w a c xs) (hb : Bk w g cs) (hl : cs.length < xs.length) (h : Chg (fun k => k = g) w w') : Bs w' a c xs :=
  Sl.chg hs h fun ad e _ hk => by
    subst e
    exact bs_ne hs hb hl hk
theorem LetterAlike_walk (x y : Nat) (i : Int) (n1 n2 : NoteD) (w : World) (hx : x < 18446744073709551616) (hy : y < 18446744073709551616) (hi : -9223372036854775808 ≤ i ∧ i ≤ 9223372036854775807) (hn1 : NoteOk n1) (hn2 : NoteOk n2) :
    Ct Try.prog 6 #[.int .u64 (x : Int), .int .u64 (y : Int), .int .i64 i, .agg (noteC n1).toArray, .agg (noteC n2).toArray] w (LawOk w) := by
  refine Ct.enter [(0, .int .u64 (x : Int)), (1, .int .u64 (y : Int)), (2, .int .i64 i), (3, .agg (noteC n1).toArray), (4, .agg (noteC n2).toArray)] Try.func6 rfl rfl rfl rfl ?_
  have hl1 := noteC_length hn1
  have hl2 := noteC_length hn2
  obtain ⟨m, hm⟩ : ∃ m, iu 18446744073709551616 i = m := ⟨_, rfl⟩
  obtain ⟨X, hX⟩ : ∃ X, X = timesV 37 x := ⟨_, rfl⟩
  obtain ⟨Y, hY⟩ : ∃ Y, Y = timesV 37 y := ⟨_, rfl⟩
  have hKX := nameV_length X
  have hKY := nameV_length Y
  have ht1 := talkB_length (x := x) (y := Y) (m := m) hn1
  have ht2 := talkB_length (x := y) (y := X) (m := m) hn2
  have hlb := loopB_length x m
  obtain ⟨B1, hB1⟩ : ∃ B, B = talkB x Y m n1 := ⟨_, rfl⟩
  obtain ⟨B2, hB2⟩ : ∃ B, B = talkB y X m n2 := ⟨_, rfl⟩
  obtain ⟨B3, hB3⟩ : ∃ B, B = loopB x m := ⟨_, rfl⟩
  rw [← hB1] at ht1
  rw [← hB2] at ht2
  rw [← hB3] at hlb
  obtain ⟨E, hE⟩ : ∃ E, E = envB 1 x (nameV Y) B1 := ⟨_, rfl⟩
  have hEl : E.length = 120 := by rw [hE, envB_length hKY, ht1]
  refine C.seq ?_
  refine C.region ?_
  refine W.box (noteC n1) rfl rfl rfl ?_
  intro g8 w8 hg8 hX8 hN8
  refine W.box (noteC n2) rfl rfl rfl ?_
  intro g9 w9 hg9 hX9 hN9
  refine W.assign rfl rfl ?_
  refine W.nil ?_
  refine At.thenCode ?_
  refine C.seq ?_
  refine C.region ?_
  refine W.call Try.call17 rfl (Law17.alive_ok _) rfl ?_
  rintro v15 w15 ⟨rfl, hX15⟩
  have hXa := (hX8.ext hX9).ext hX15
  have hN8a := (hN8.ext hX9).ext hX15
  have hN9a := hN9.ext hX15
  refine W.assign rfl rfl ?_
  refine W.nil ?_
  refine At.thenCode ?_
  refine C.seq ?_
  refine C.seq ?_
  refine C.region ?_
  refine W.move rfl rfl ?_
  first | refine W.notD rfl rfl ?_ | refine W.notB rfl rfl ?_
  refine W.eqv (v' := .bool false) (rfl) ?_
  refine W.nil ?_
  refine At.thenCode ?_
  refine C.condF rfl ?_
  refine C.skip ?_
  refine At.thenCode ?_
  refine C.seq ?_
  refine C.regionAny 7 ((fun v w => v = .int .u64 (x : Int)) :: (fun v w => v = .int .u64 (y : Int)) :: (fun v w => v = .int .u64 (Y : Int)) :: (fun v w => v = .int .i64 i) :: (fun v w => v = .agg (noteC n1).toArray) :: (fun v w => NewLet w15 w v (nameV Y) B1) :: (fun v w => ∃ g, v = .pointer (some ⟨g, 0, none⟩) ∧ w15.heap.size ≤ g ∧ Bk w g zeroLetC) :: []) [(0, .int .u64 (x : Int)), (1, .int .u64 (y : Int)), (2, .int .i64 i), (8, .pointer (some ⟨g8, 0, none⟩)), (9, .pointer (some ⟨g9, 0, none⟩))] [] (Sub.cons (rfl) (Sub.cons (rfl) (Sub.cons (rfl) (Sub.cons (rfl) (Sub.cons (rfl) (Sub.nil)))))) (Sub.nil) (Sub.cons (rfl) (Sub.cons (rfl) (Sub.cons (rfl) (Sub.cons (rfl) (Sub.cons (rfl) (Sub.nil)))))) (by kernel_rfl) rfl rfl rfl (And.intro (fun _ _ _ h _ => h) (And.intro (fun _ _ _ h _ => h) (And.intro (fun _ _ _ h _ => h) (And.intro (fun _ _ _ h _ => h) (And.intro (fun _ _ _ h _ => h) (And.intro (fun _ _ _ ⟨a, c, e, h, q⟩ g => ⟨a, c, e, Sl.ext h g, q⟩) (And.intro (fun _ _ _ ⟨g, e, q, h⟩ x => ⟨g, e, q, h.ext x⟩) (trivial)))))))) ?_ ?_
  · refine And.intro ?_ ?_
    · intro L_ wr hX_ hs_ hf_ hd_
      refine W.step [(0, _)] (Sub.cons (hs_ _ _ rfl) (Sub.refl _)) ?_
      refine W.move rfl rfl ?_
      refine W.nil ?_
      exact At.step (Ext.refl _) rfl
    refine And.intro ?_ ?_
    · intro L_ wr hX_ hs_ hf_ hd_
      refine W.step [(1, _)] (Sub.cons (hs_ _ _ rfl) (Sub.refl _)) ?_
      refine W.move rfl rfl ?_
      refine W.nil ?_
      exact At.step (Ext.refl _) rfl
    refine And.intro ?_ ?_
    · intro L_ wr hX_ hs_ hf_ hd_
      obtain ⟨v1, e1, r1⟩ := hd_ 1 rfl
      obtain rfl : (.int .u64 (y : Int) : Value) = v1 := Eq.symm r1
      refine W.step [(20, _)] (Sub.cons (e1 _ rfl) (Sub.refl _)) ?_
      refine W.call Try.call19 rfl (Grp.RBase_ok y (by omega) _) rfl ?_
      rintro v21 w21 ⟨rfl, rfl⟩
      rw [← hY]
      refine W.nil ?_
      exact At.step (Ext.refl _) rfl
    refine And.intro ?_ ?_
    · intro L_ wr hX_ hs_ hf_ hd_
      refine W.step [(2, _)] (Sub.cons (hs_ _ _ rfl) (Sub.refl _)) ?_
      refine W.move rfl rfl ?_
      refine W.nil ?_
      exact At.step (Ext.refl _) rfl
    refine And.intro ?_ ?_
    · intro L_ wr hX_ hs_ hf_ hd_
      refine W.step [(8, _)] (Sub.cons (hs_ _ _ rfl) (Sub.refl _)) ?_
      refine W.loadA rfl ((hN8a.ext hX_).cells (o := 0)) Try.underlying34 rfl (by rw [List.drop_zero, hl1]; kernel_rfl) rfl ?_
      rw [List.drop_zero]
      refine W.nil ?_
      exact At.step (Ext.refl _) rfl
    refine And.intro ?_ ?_
    · intro L_ wr hX_ hs_ hf_ hd_
      obtain ⟨v0, e0, r0⟩ := hd_ 0 rfl
      obtain rfl : (.int .u64 (x : Int) : Value) = v0 := Eq.symm r0
      obtain ⟨v2, e2, r2⟩ := hd_ 2 rfl
      obtain rfl : (.int .u64 (Y : Int) : Value) = v2 := Eq.symm r2
      obtain ⟨v3, e3, r3⟩ := hd_ 3 rfl
      obtain rfl : (.int .i64 i : Value) = v3 := Eq.symm r3
      obtain ⟨v4, e4, r4⟩ := hd_ 4 rfl
      obtain rfl : (.agg (noteC n1).toArray : Value) = v4 := Eq.symm r4
      refine W.step [(19, _), (21, _), (22, _), (23, _)] (Sub.cons (e0 _ rfl) (Sub.cons (e2 _ rfl) (Sub.cons (e3 _ rfl) (Sub.cons (e4 _ rfl) (Sub.refl _))))) ?_
      refine W.call Try.call18 rfl (Let.Talk_ok x Y i m n1 _ hx hm hn1) rfl ?_
      rintro v24 w24 ⟨⟨a24, c24, rfl, hb24, hq24⟩, hX24⟩
      rw [← hB1] at hb24 ⊢
      refine W.nil ?_
      exact At.step hX24 ⟨a24, c24, rfl, hb24, fun ad e => Nat.le_trans hX_.size (hq24 ad e)⟩
    refine And.intro ?_ ?_
    · intro L_ wr hX_ hs_ hf_ hd_
      refine W.step [] (Sub.refl _) ?_
      refine W.alloc (z := .agg zeroLetC.toArray) zeroLetC (by kernel_rfl) rfl rfl ?_
      intro g12' w12 hg12' hX12 hB12'
      refine W.nil ?_
      exact At.step hX12 ⟨g12', rfl, by have := hX_.size; omega, hB12'⟩
    exact trivial
  · intro L_ wr hX4 hs_ hv_
    obtain ⟨v6, e6, r6⟩ := hv_ 6 (by decide)
    obtain ⟨g12, rfl, hg12, hB12⟩ := r6
    obtain ⟨v5, e5, r5⟩ := hv_ 5 (by decide)
    obtain ⟨a5, c5, rfl, hb5, hq5⟩ := r5
    refine W.weaken (l' := [(12, _), (24, _), (0, _), (1, _), (2, _), (8, _), (9, _)]) (Sub.cons (e6 _ rfl) (Sub.cons (e5 _ rfl) (Sub.cons (hs_ _ _ rfl) (Sub.cons (hs_ _ _ rfl) (Sub.cons (hs_ _ _ rfl) (Sub.cons (hs_ _ _ rfl) (Sub.cons (hs_ _ _ rfl) (Sub.nil)))))))) ?_
    refine W.storeA (letC (nameV Y) (.slice a5 B1.length c5)) rfl rfl hB12 (by rw [letC_length hKY]; rfl) (by rw [letC_length hKY]; kernel_rfl) (letC_one _ _ _ _) ?_
    intro w41 hc41 hB41
    have hX41 : Ext w15 w41 := hX4.news hc41 fun k hk => Or.inr (by omega)
    have hXb := hXa.ext hX41
    have hN9b := hN9a.ext hX41
    have hzl : zeroLetC.length = 33 := by decide
    have hbA : Bs w41 a5 c5 B1 := bs_keep hb5 hB12 (by omega) hc41
    refine W.nil ?_
    refine At.thenCode ?_
    refine C.seq ?_
    refine C.regionAny 7 ((fun v w => v = .int .u64 (y : Int)) :: (fun v w => v = .int .u64 (x : Int)) :: (fun v w => v = .int .u64 (X : Int)) :: (fun v w => v = .int .i64 i) :: (fun v w => v = .agg (noteC n2).toArray) :: (fun v w => NewLet w41 w v (nameV X) B2) :: (fun v w => ∃ g, v = .pointer (some ⟨g, 0, none⟩) ∧ w41.heap.size ≤ g ∧ Bk w g zeroLetC) :: []) [(0, .int .u64 (x : Int)), (1, .int .u64 (y : Int)), (2, .int .i64 i), (9, .pointer (some ⟨g9, 0, none⟩)), (12, .pointer (some ⟨g12, 0, none⟩))] [] (Sub.cons (rfl) (Sub.cons (rfl) (Sub.cons (rfl) (Sub.cons (rfl) (Sub.cons (rfl) (Sub.nil)))))) (Sub.nil) (Sub.cons (rfl) (Sub.cons (rfl) (Sub.cons (rfl) (Sub.cons (rfl) (Sub.cons (rfl) (Sub.nil)))))) (by kernel_rfl) rfl rfl rfl (And.intro (fun _ _ _ h _ => h) (And.intro (fun _ _ _ h _ => h) (And.intro (fun _ _ _ h _ => h) (And.intro (fun _ _ _ h _ => h) (And.intro (fun _ _ _ h _ => h) (And.intro (fun _ _ _ ⟨a, c, e, h, q⟩ g => ⟨a, c, e, Sl.ext h g, q⟩) (And.intro (fun _ _ _ ⟨g, e, q, h⟩ x => ⟨g, e, q, h.ext x⟩) (trivial)))))))) ?_ ?_
    · refine And.intro ?_ ?_
      · intro L_ wr5 hX_ hs_ hf_ hd_
        refine W.step [(1, _)] (Sub.cons (hs_ _ _ rfl) (Sub.refl _)) ?_
        refine W.move rfl rfl ?_
        refine W.nil ?_
        exact At.step (Ext.refl _) rfl
      refine And.intro ?_ ?_
      · intro L_ wr5 hX_ hs_ hf_ hd_
        refine W.step [(0, _)] (Sub.cons (hs_ _ _ rfl) (Sub.refl _)) ?_
        refine W.move rfl rfl ?_
        refine W.nil ?_
        exact At.step (Ext.refl _) rfl
      refine And.intro ?_ ?_
      · intro L_ wr5 hX_ hs_ hf_ hd_
        obtain ⟨v1, e1, r1⟩ := hd_ 1 rfl
        obtain rfl : (.int .u64 (x : Int) : Value) = v1 := Eq.symm r1
        refine W.step [(26, _)] (Sub.cons (e1 _ rfl) (Sub.refl _)) ?_
        refine W.call Try.call19 rfl (Grp.RBase_ok x (by omega) _) rfl ?_
        rintro v27 w27 ⟨rfl, rfl⟩
        rw [← hX]
        refine W.nil ?_
        exact At.step (Ext.refl _) rfl
      refine And.intro ?_ ?_
      · intro L_ wr5 hX_ hs_ hf_ hd_
        refine W.step [(2, _)] (Sub.cons (hs_ _ _ rfl) (Sub.refl _)) ?_
        refine W.move rfl rfl ?_
        refine W.nil ?_
        exact At.step (Ext.refl _) rfl
      refine And.intro ?_ ?_
      · intro L_ wr5 hX_ hs_ hf_ hd_
        refine W.step [(9, _)] (Sub.cons (hs_ _ _ rfl) (Sub.refl _)) ?_
        refine W.loadA rfl ((hN9b.ext hX_).cells (o := 0)) Try.underlying34 rfl (by rw [List.drop_zero, hl2]; kernel_rfl) rfl ?_
        rw [List.drop_zero]
        refine W.nil ?_
        exact At.step (Ext.refl _) rfl
      refine And.intro ?_ ?_
      · intro L_ wr5 hX_ hs_ hf_ hd_
        obtain ⟨v0, e0, r0⟩ := hd_ 0 rfl
        obtain rfl : (.int .u64 (y : Int) : Value) = v0 := Eq.symm r0
        obtain ⟨v2, e2, r2⟩ := hd_ 2 rfl
        obtain rfl : (.int .u64 (X : Int) : Value) = v2 := Eq.symm r2
        obtain ⟨v3, e3, r3⟩ := hd_ 3 rfl
        obtain rfl : (.int .i64 i : Value) = v3 := Eq.symm r3
        obtain ⟨v4, e4, r4⟩ := hd_ 4 rfl
        obtain rfl : (.agg (noteC n2).toArray : Value) = v4 := Eq.symm r4
        refine W.step [(25, _), (27, _), (28, _), (29, _)] (Sub.cons (e0 _ rfl) (Sub.cons (e2 _ rfl) (Sub.cons (e3 _ rfl) (Sub.cons (e4 _ rfl) (Sub.refl _))))) ?_
        refine W.call Try.call18 rfl (Let.Talk_ok y X i m n2 _ hy hm hn2) rfl ?_
        rintro v30 w30 ⟨⟨a30, c30, rfl, hb30, hq30⟩, hX30⟩
        rw [← hB2] at hb30 ⊢
        refine W.nil ?_
        exact At.step hX30 ⟨a30, c30, rfl, hb30, fun ad e => Nat.le_trans hX_.size (hq30 ad e)⟩
      refine And.intro ?_ ?_
      · intro L_ wr5 hX_ hs_ hf_ hd_
        refine W.step [] (Sub.refl _) ?_
        refine W.alloc (z := .agg zeroLetC.toArray) zeroLetC (by kernel_rfl) rfl rfl ?_
        intro g13' w13 hg13' hX13 hB13'
        refine W.nil ?_
        exact At.step hX13 ⟨g13', rfl, by have := hX_.size; omega, hB13'⟩
      exact trivial
    · intro L_ wr5 hX5 hs_ hv_
      obtain ⟨v6, e6, r6⟩ := hv_ 6 (by decide)
      obtain ⟨g13, rfl, hg13, hB13⟩ := r6
      obtain ⟨v5, e5, r5⟩ := hv_ 5 (by decide)
      obtain ⟨a5', c5', rfl, hb5', hq5'⟩ := r5
      refine W.weaken (l' := [(13, _), (30, _), (0, _), (1, _), (2, _), (9, _), (12, _)]) (Sub.cons (e6 _ rfl) (Sub.cons (e5 _ rfl) (Sub.cons (hs_ _ _ rfl) (Sub.cons (hs_ _ _ rfl) (Sub.cons (hs_ _ _ rfl) (Sub.cons (hs_ _ _ rfl) (Sub.cons (hs_ _ _ rfl) (Sub.nil)))))))) ?_
      refine W.storeA (letC (nameV X) (.slice a5' B2.length c5')) rfl rfl hB13 (by rw [letC_length hKX]; rfl) (by rw [letC_length hKX]; kernel_rfl) (letC_one _ _ _ _) ?_
      intro w51 hc51 hB51
      have hX51 : Ext w41 w51 := hX5.news hc51 fun k hk => Or.inr (by omega)
      have hXc := hXb.ext hX51
      have hB41a := hB41.ext hX51
      have hbB := hbA.ext hX51
      refine W.nil ?_
      refine At.thenCode ?_
      refine C.seq ?_
      refine C.region ?_
      refine W.move rfl rfl ?_
      refine W.move rfl rfl ?_
      refine W.call Try.call20 rfl (Let.Loop_ok x i m _ hx hm) rfl ?_
      rintro v33 w33 ⟨⟨a33, c33, rfl, hb33, _⟩, hX33⟩
      rw [← hB3, ← hX]
      refine W.alloc (z := .agg zeroLetC.toArray) zeroLetC (by kernel_rfl) rfl rfl ?_
      intro g14 w14 hg14 hX14 hB14
      refine W.storeA (letC (nameV X) (.slice a33 B3.length c33)) rfl rfl hB14 (by rw [letC_length hKX]; rfl) (by rw [letC_length hKX]; kernel_rfl) (letC_one _ _ _ _) ?_
      intro w61 hc61 hB61
      have hX61 : Ext w51 w61 := (hX33.ext hX14).news hc61 fun k hk => Or.inr (by have := hX33.size; omega)
      have hXd := hXc.ext hX61
      have hB41b := hB41a.ext hX61
      have hB51b := hB51.ext hX61
      have hbC := hbB.ext hX61
      refine W.nil ?_
      refine At.thenCode ?_
      refine C.seq ?_
      refine C.regionAny 32 ((fun v w => v = .pointer (some ⟨g12, 32, none⟩)) :: (fun v w => v = .slice a5 B1.length c5) :: (fun v w => v = .int .i64 (B1.length : Int)) :: (fun v w => v = .bool true) :: (fun v w => v = .bool true) :: (fun v w => v = .pointer (some ⟨g13, 32, none⟩)) :: (fun v w => v = .slice a5' B2.length c5') :: (fun v w => v = .int .i64 (B2.length : Int)) :: (fun v w => v = .bool true) :: (fun v w => v = .bool true) :: (fun v w => v = .bool true) :: (fun v w => v = .pointer (some ⟨g14, 32, none⟩)) :: (fun v w => v = .slice a33 B3.length c33) :: (fun v w => v = .int .i64 (B3.length : Int)) :: (fun v w => v = .bool true) :: (fun v w => v = .bool true) :: (fun v w => v = .bool true) :: (fun v w => v = .int .u64 (x : Int)) :: (fun v w => v = .agg (letC (nameV Y) (.slice a5 B1.length c5)).toArray) :: (fun v w => Rep w v E) :: (fun v w => v = .int .i64 (E.length : Int)) :: (fun v w => v = .bool true) :: (fun v w => v = .bool true) :: (fun v w => v = .bool true) :: (fun v w => v = .pointer (some ⟨g14, 0, none⟩)) :: (fun v w => v = keyV (nameV X)) :: (fun v w => v = .int .u64 (x : Int)) :: (fun v w => v = .int .u64 (X : Int)) :: (fun v w => v = keyV (nameV X)) :: (fun v w => v = .bool true) :: (fun v w => v = .bool true) :: (fun v w => v = .bool true) :: []) [(0, .int .u64 (x : Int)), (12, .pointer (some ⟨g12, 0, none⟩)), (13, .pointer (some ⟨g13, 0, none⟩)), (14, .pointer (some ⟨g14, 0, none⟩))] [] (Sub.cons (rfl) (Sub.cons (rfl) (Sub.cons (rfl) (Sub.cons (rfl) (Sub.nil))))) (Sub.nil) (Sub.cons (rfl) (Sub.cons (rfl) (Sub.cons (rfl) (Sub.cons (rfl) (Sub.nil))))) (by kernel_rfl) rfl rfl rfl (And.intro (fun _ _ _ h _ => h) (And.intro (fun _ _ _ h _ => h) (And.intro (fun _ _ _ h _ => h) (And.intro (fun _ _ _ h _ => h) (And.intro (fun _ _ _ h _ => h) (And.intro (fun _ _ _ h _ => h) (And.intro (fun _ _ _ h _ => h) (And.intro (fun _ _ _ h _ => h) (And.intro (fun _ _ _ h _ => h) (And.intro (fun _ _ _ h _ => h) (And.intro (fun _ _ _ h _ => h) (And.intro (fun _ _ _ h _ => h) (And.intro (fun _ _ _ h _ => h) (And.intro (fun _ _ _ h _ => h) (And.intro (fun _ _ _ h _ => h) (And.intro (fun _ _ _ h _ => h) (And.intro (fun _ _ _ h _ => h) (And.intro (fun _ _ _ h _ => h) (And.intro (fun _ _ _ h _ => h) (And.intro (fun _ _ _ h g => Rep.ext h g) (And.intro (fun _ _ _ h _ => h) (And.intro (fun _ _ _ h _ => h) (And.intro (fun _ _ _ h _ => h) (And.intro (fun _ _ _ h _ => h) (And.intro (fun _ _ _ h _ => h) (And.intro (fun _ _ _ h _ => h) (And.intro (fun _ _ _ h _ => h) (And.intro (fun _ _ _ h _ => h) (And.intro (fun _ _ _ h _ => h) (And.intro (fun _ _ _ h _ => h) (And.intro (fun _ _ _ h _ => h) (And.intro (fun _ _ _ h _ => h) (trivial))))))))))))))))))))))))))))))))) ?_ ?_
      · refine And.intro ?_ ?_
        · intro L_ wr7 hX_ hs_ hf_ hd_
          refine W.step [(12, _)] (Sub.cons (hs_ _ _ rfl) (Sub.refl _)) ?_
          refine W.fieldB (off := 32) (size := 1) (t := 24) (Fld.of (by kernel_rfl)) rfl rfl rfl ?_
          refine W.nil ?_
          exact At.step (Ext.refl _) rfl
        refine And.intro ?_ ?_
        · intro L_ wr7 hX_ hs_ hf_ hd_
          obtain ⟨v0, e0, r0⟩ := hd_ 0 rfl
          obtain rfl : (.pointer (some ⟨g12, 32, none⟩) : Value) = v0 := Eq.symm r0
          refine W.step [(34, _)] (Sub.cons (e0 _ rfl) (Sub.refl _)) ?_
          refine W.loadB (v := .slice a5 B1.length c5) rfl Try.underlying24 rfl (hB41b.ext hX_) (letC_get hKY _) rfl ?_
          refine W.nil ?_
          exact At.step (Ext.refl _) rfl
        refine And.intro ?_ ?_
        · intro L_ wr7 hX_ hs_ hf_ hd_
          obtain ⟨v1, e1, r1⟩ := hd_ 1 rfl
          obtain rfl : (.slice a5 B1.length c5 : Value) = v1 := Eq.symm r1
          refine W.step [(35, _)] (Sub.cons (e1 _ rfl) (Sub.refl _)) ?_
          refine W.lenS rfl Try.underlying24 rfl ?_
          refine W.nil ?_
          exact At.step (Ext.refl _) rfl
        refine And.intro ?_ ?_
        · intro L_ wr7 hX_ hs_ hf_ hd_
          obtain ⟨v2, e2, r2⟩ := hd_ 2 rfl
          obtain rfl : (.int .i64 (B1.length : Int) : Value) = v2 := Eq.symm r2
          refine W.step [(36, _)] (Sub.cons (e2 _ rfl) (Sub.refl _)) ?_
          refine W.eqlI rfl rfl rfl ?_
          refine W.eqv (bT (by rw [ht1]; rfl)) ?_
          refine W.nil ?_
          exact At.step (Ext.refl _) rfl
        refine And.intro ?_ ?_
        · intro L_ wr7 hX_ hs_ hf_ hd_
          obtain ⟨v3, e3, r3⟩ := hd_ 3 rfl
          obtain rfl : (.bool true : Value) = v3 := Eq.symm r3
          refine W.step [(37, _)] (Sub.cons (e3 _ rfl) (Sub.refl _)) ?_
          refine W.move rfl rfl ?_
          refine W.nil ?_
          exact At.step (Ext.refl _) rfl
        refine And.intro ?_ ?_
        · intro L_ wr7 hX_ hs_ hf_ hd_
          obtain ⟨v4, e4, r4⟩ := hd_ 4 rfl
          obtain rfl : (.bool true : Value) = v4 := Eq.symm r4
          refine W.step [(13, _), (38, _)] (Sub.cons (hs_ _ _ rfl) (Sub.cons (e4 _ rfl) (Sub.refl _))) ?_
          refine W.wants rfl rfl rfl rfl ?_
          refine W.fieldB (off := 32) (size := 1) (t := 24) (Fld.of (by kernel_rfl)) rfl rfl rfl ?_
          refine W.nil ?_
          exact At.step (Ext.refl _) rfl
        refine And.intro ?_ ?_
        · intro L_ wr7 hX_ hs_ hf_ hd_
          obtain ⟨v5, e5, r5⟩ := hd_ 5 rfl
          obtain rfl : (.pointer (some ⟨g13, 32, none⟩) : Value) = v5 := Eq.symm r5
          obtain ⟨v4, e4, r4⟩ := hd_ 4 rfl
          obtain rfl : (.bool true : Value) = v4 := Eq.symm r4
          refine W.step [(39, _), (38, _)] (Sub.cons (e5 _ rfl) (Sub.cons (e4 _ rfl) (Sub.refl _))) ?_
          refine W.wants rfl rfl rfl rfl ?_
          refine W.loadB (v := .slice a5' B2.length c5') rfl Try.underlying24 rfl (hB51b.ext hX_) (letC_get hKX _) rfl ?_
          refine W.nil ?_
          exact At.step (Ext.refl _) rfl
        refine And.intro ?_ ?_
        · intro L_ wr7 hX_ hs_ hf_ hd_
          obtain ⟨v6, e6, r6⟩ := hd_ 6 rfl
          obtain rfl : (.slice a5' B2.length c5' : Value) = v6 := Eq.symm r6
          obtain ⟨v4, e4, r4⟩ := hd_ 4 rfl
          obtain rfl : (.bool true : Value) = v4 := Eq.symm r4
          refine W.step [(40, _), (38, _)] (Sub.cons (e6 _ rfl) (Sub.cons (e4 _ rfl) (Sub.refl _))) ?_
          refine W.wants rfl rfl rfl rfl ?_
          refine W.lenS rfl Try.underlying24 rfl ?_
          refine W.nil ?_
          exact At.step (Ext.refl _) rfl
        refine And.intro ?_ ?_
        · intro L_ wr7 hX_ hs_ hf_ hd_
          obtain ⟨v7, e7, r7⟩ := hd_ 7 rfl
          obtain rfl : (.int .i64 (B2.length : Int) : Value) = v7 := Eq.symm r7
          obtain ⟨v4, e4, r4⟩ := hd_ 4 rfl
          obtain rfl : (.bool true : Value) = v4 := Eq.symm r4
          refine W.step [(41, _), (38, _)] (Sub.cons (e7 _ rfl) (Sub.cons (e4 _ rfl) (Sub.refl _))) ?_
          refine W.wants rfl rfl rfl rfl ?_
          refine W.eqlI rfl rfl rfl ?_
          refine W.eqv (bT (by rw [ht2]; rfl)) ?_
          refine W.nil ?_
          exact At.step (Ext.refl _) rfl
        refine And.intro ?_ ?_
        · intro L_ wr7 hX_ hs_ hf_ hd_
          obtain ⟨v4, e4, r4⟩ := hd_ 4 rfl
          obtain rfl : (.bool true : Value) = v4 := Eq.symm r4
          obtain ⟨v8, e8, r8⟩ := hd_ 8 rfl
          obtain rfl : (.bool true : Value) = v8 := Eq.symm r8
          refine W.step [(38, _), (42, _)] (Sub.cons (e4 _ rfl) (Sub.cons (e8 _ rfl) (Sub.refl _))) ?_
          refine W.pickT rfl rfl rfl ?_
          refine W.nil ?_
          exact At.step (Ext.refl _) rfl
        refine And.intro ?_ ?_
        · intro L_ wr7 hX_ hs_ hf_ hd_
          obtain ⟨v9, e9, r9⟩ := hd_ 9 rfl
          obtain rfl : (.bool true : Value) = v9 := Eq.symm r9
          refine W.step [(43, _)] (Sub.cons (e9 _ rfl) (Sub.refl _)) ?_
          refine W.move rfl rfl ?_
          refine W.nil ?_
          exact At.step (Ext.refl _) rfl
        refine And.intro ?_ ?_
        · intro L_ wr7 hX_ hs_ hf_ hd_
          obtain ⟨v10, e10, r10⟩ := hd_ 10 rfl
          obtain rfl : (.bool true : Value) = v10 := Eq.symm r10
          refine W.step [(14, _), (44, _)] (Sub.cons (hs_ _ _ rfl) (Sub.cons (e10 _ rfl) (Sub.refl _))) ?_
          refine W.wants rfl rfl rfl rfl ?_
          refine W.fieldB (off := 32) (size := 1) (t := 24) (Fld.of (by kernel_rfl)) rfl rfl rfl ?_
          refine W.nil ?_
          exact At.step (Ext.refl _) rfl
        refine And.intro ?_ ?_
        · intro L_ wr7 hX_ hs_ hf_ hd_
          obtain ⟨v11, e11, r11⟩ := hd_ 11 rfl
          obtain rfl : (.pointer (some ⟨g14, 32, none⟩) : Value) = v11 := Eq.symm r11
          obtain ⟨v10, e10, r10⟩ := hd_ 10 rfl
          obtain rfl : (.bool true : Value) = v10 := Eq.symm r10
          refine W.step [(45, _), (44, _)] (Sub.cons (e11 _ rfl) (Sub.cons (e10 _ rfl) (Sub.refl _))) ?_
          refine W.wants rfl rfl rfl rfl ?_
          refine W.loadB (v := .slice a33 B3.length c33) rfl Try.underlying24 rfl (hB61.ext hX_) (letC_get hKX _) rfl ?_
          refine W.nil ?_
          exact At.step (Ext.refl _) rfl
        refine And.intro ?_ ?_
        · intro L_ wr7 hX_ hs_ hf_ hd_
          obtain ⟨v12, e12, r12⟩ := hd_ 12 rfl
          obtain rfl : (.slice a33 B3.length c33 : Value) = v12 := Eq.symm r12
          obtain ⟨v10, e10, r10⟩ := hd_ 10 rfl
          obtain rfl : (.bool true : Value) = v10 := Eq.symm r10
          refine W.step [(46, _), (44, _)] (Sub.cons (e12 _ rfl) (Sub.cons (e10 _ rfl) (Sub.refl _))) ?_
          refine W.wants rfl rfl rfl rfl ?_
          refine W.lenS rfl Try.underlying24 rfl ?_
          refine W.nil ?_
          exact At.step (Ext.refl _) rfl
        refine And.intro ?_ ?_
        · intro L_ wr7 hX_ hs_ hf_ hd_
          obtain ⟨v13, e13, r13⟩ := hd_ 13 rfl
          obtain rfl : (.int .i64 (B3.length : Int) : Value) = v13 := Eq.symm r13
          obtain ⟨v10, e10, r10⟩ := hd_ 10 rfl
          obtain rfl : (.bool true : Value) = v10 := Eq.symm r10
          refine W.step [(47, _), (44, _)] (Sub.cons (e13 _ rfl) (Sub.cons (e10 _ rfl) (Sub.refl _))) ?_
          refine W.wants rfl rfl rfl rfl ?_
          refine W.eqlI rfl rfl rfl ?_
          refine W.eqv (bT (by rw [hlb]; rfl)) ?_
          refine W.nil ?_
          exact At.step (Ext.refl _) rfl
        refine And.intro ?_ ?_
        · intro L_ wr7 hX_ hs_ hf_ hd_
          obtain ⟨v10, e10, r10⟩ := hd_ 10 rfl
          obtain rfl : (.bool true : Value) = v10 := Eq.symm r10
          obtain ⟨v14, e14, r14⟩ := hd_ 14 rfl
          obtain rfl : (.bool true : Value) = v14 := Eq.symm r14
          refine W.step [(44, _), (48, _)] (Sub.cons (e10 _ rfl) (Sub.cons (e14 _ rfl) (Sub.refl _))) ?_
          refine W.pickT rfl rfl rfl ?_
          refine W.nil ?_
          exact At.step (Ext.refl _) rfl
        refine And.intro ?_ ?_
        · intro L_ wr7 hX_ hs_ hf_ hd_
          obtain ⟨v15, e15, r15⟩ := hd_ 15 rfl
          obtain rfl : (.bool true : Value) = v15 := Eq.symm r15
          refine W.step [(49, _)] (Sub.cons (e15 _ rfl) (Sub.refl _)) ?_
          refine W.move rfl rfl ?_
          refine W.nil ?_
          exact At.step (Ext.refl _) rfl
        refine And.intro ?_ ?_
        · intro L_ wr7 hX_ hs_ hf_ hd_
          obtain ⟨v16, e16, r16⟩ := hd_ 16 rfl
          obtain rfl : (.bool true : Value) = v16 := Eq.symm r16
          refine W.step [(0, _), (50, _)] (Sub.cons (hs_ _ _ rfl) (Sub.cons (e16 _ rfl) (Sub.refl _))) ?_
          refine W.wants rfl rfl rfl rfl ?_
          refine W.move rfl rfl ?_
          refine W.nil ?_
          exact At.step (Ext.refl _) rfl
        refine And.intro ?_ ?_
        · intro L_ wr7 hX_ hs_ hf_ hd_
          obtain ⟨v16, e16, r16⟩ := hd_ 16 rfl
          obtain rfl : (.bool true : Value) = v16 := Eq.symm r16
          refine W.step [(12, _), (50, _)] (Sub.cons (hs_ _ _ rfl) (Sub.cons (e16 _ rfl) (Sub.refl _))) ?_
          refine W.wants rfl rfl rfl rfl ?_
          refine W.loadA rfl ((hB41b.ext hX_).cells (o := 0)) Try.underlying36 rfl (by rw [List.drop_zero, letC_length hKY]; kernel_rfl) rfl ?_
          rw [List.drop_zero]
          refine W.nil ?_
          exact At.step (Ext.refl _) rfl
        refine And.intro ?_ ?_
        · intro L_ wr7 hX_ hs_ hf_ hd_
          obtain ⟨v17, e17, r17⟩ := hd_ 17 rfl
          obtain rfl : (.int .u64 (x : Int) : Value) = v17 := Eq.symm r17
          obtain ⟨v18, e18, r18⟩ := hd_ 18 rfl
          obtain rfl : (.agg (letC (nameV Y) (.slice a5 B1.length c5)).toArray : Value) = v18 := Eq.symm r18
          obtain ⟨v16, e16, r16⟩ := hd_ 16 rfl
          obtain rfl : (.bool true : Value) = v16 := Eq.symm r16
          refine W.step [(51, _), (52, _), (50, _)] (Sub.cons (e17 _ rfl) (Sub.cons (e18 _ rfl) (Sub.cons (e16 _ rfl) (Sub.refl _)))) ?_
          refine W.wants rfl rfl rfl rfl ?_
          refine W.call Try.call21 rfl (Let.Envelope_ok 1 x (nameV Y) a5 c5 B1 _ hx hKY (hbC.ext hX_) (by omega)) rfl ?_
          rintro v53 w53 ⟨hO53, hX53⟩
          rw [← hE] at hO53
          obtain ⟨a53, c53, rfl, hS53, _⟩ := ownsRow_form hO53
          refine W.nil ?_
          exact At.step hX53 ⟨_, _, rfl, hS53⟩
        refine And.intro ?_ ?_
        · intro L_ wr7 hX_ hs_ hf_ hd_
          obtain ⟨v19, e19, r19⟩ := hd_ 19 rfl
          obtain ⟨a19, c19, rfl, hb19⟩ := r19
          obtain ⟨v16, e16, r16⟩ := hd_ 16 rfl
          obtain rfl : (.bool true : Value) = v16 := Eq.symm r16
          refine W.step [(53, _), (50, _)] (Sub.cons (e19 _ rfl) (Sub.cons (e16 _ rfl) (Sub.refl _))) ?_
          refine W.wants rfl rfl rfl rfl ?_
          refine W.lenS rfl Try.underlying24 rfl ?_
          refine W.nil ?_
          exact At.step (Ext.refl _) rfl
        refine And.intro ?_ ?_
        · intro L_ wr7 hX_ hs_ hf_ hd_
          obtain ⟨v20, e20, r20⟩ := hd_ 20 rfl
          obtain rfl : (.int .i64 (E.length : Int) : Value) = v20 := Eq.symm r20
          obtain ⟨v16, e16, r16⟩ := hd_ 16 rfl
          obtain rfl : (.bool true : Value) = v16 := Eq.symm r16
          refine W.step [(54, _), (50, _)] (Sub.cons (e20 _ rfl) (Sub.cons (e16 _ rfl) (Sub.refl _))) ?_
          refine W.wants rfl rfl rfl rfl ?_
          refine W.eqlI rfl rfl rfl ?_
          refine W.eqv (bT (by rw [hEl]; rfl)) ?_
          refine W.nil ?_
          exact At.step (Ext.refl _) rfl
        refine And.intro ?_ ?_
        · intro L_ wr7 hX_ hs_ hf_ hd_
          obtain ⟨v16, e16, r16⟩ := hd_ 16 rfl
          obtain rfl : (.bool true : Value) = v16 := Eq.symm r16
          obtain ⟨v21, e21, r21⟩ := hd_ 21 rfl
          obtain rfl : (.bool true : Value) = v21 := Eq.symm r21
          refine W.step [(50, _), (55, _)] (Sub.cons (e16 _ rfl) (Sub.cons (e21 _ rfl) (Sub.refl _))) ?_
          refine W.pickT rfl rfl rfl ?_
          refine W.nil ?_
          exact At.step (Ext.refl _) rfl
        refine And.intro ?_ ?_
        · intro L_ wr7 hX_ hs_ hf_ hd_
          obtain ⟨v22, e22, r22⟩ := hd_ 22 rfl
          obtain rfl : (.bool true : Value) = v22 := Eq.symm r22
          refine W.step [(56, _)] (Sub.cons (e22 _ rfl) (Sub.refl _)) ?_
          refine W.move rfl rfl ?_
          refine W.nil ?_
          exact At.step (Ext.refl _) rfl
        refine And.intro ?_ ?_
        · intro L_ wr7 hX_ hs_ hf_ hd_
          obtain ⟨v23, e23, r23⟩ := hd_ 23 rfl
          obtain rfl : (.bool true : Value) = v23 := Eq.symm r23
          refine W.step [(14, _), (57, _)] (Sub.cons (hs_ _ _ rfl) (Sub.cons (e23 _ rfl) (Sub.refl _))) ?_
          refine W.wants rfl rfl rfl rfl ?_
          refine W.fieldB (off := 0) (size := 32) (t := 23) (Fld.of (by kernel_rfl)) rfl rfl rfl ?_
          refine W.nil ?_
          exact At.step (Ext.refl _) rfl
        refine And.intro ?_ ?_
        · intro L_ wr7 hX_ hs_ hf_ hd_
          obtain ⟨v24, e24, r24⟩ := hd_ 24 rfl
          obtain rfl : (.pointer (some ⟨g14, 0, none⟩) : Value) = v24 := Eq.symm r24
          obtain ⟨v23, e23, r23⟩ := hd_ 23 rfl
          obtain rfl : (.bool true : Value) = v23 := Eq.symm r23
          refine W.step [(58, _), (57, _)] (Sub.cons (e24 _ rfl) (Sub.cons (e23 _ rfl) (Sub.refl _))) ?_
          refine W.wants rfl rfl rfl rfl ?_
          refine W.loadA (cs := (nameV X).map byteV) rfl (by have := Bk.cellsN (o := 0) (n := 32) (hB61.ext hX_); rwa [show ((letC (nameV X) (.slice a33 B3.length c33)).drop 0).take 32 = (nameV X).map byteV from by unfold letC; rw [List.drop_zero, List.take_append_of_le_length (by simp [hKX]), List.take_of_length_le (by simp [hKX])]] at this) Try.underlying23 rfl (by rw [List.length_map, hKX]; kernel_rfl) rfl ?_
          refine W.nil ?_
          exact At.step (Ext.refl _) rfl
        refine And.intro ?_ ?_
        · intro L_ wr7 hX_ hs_ hf_ hd_
          obtain ⟨v23, e23, r23⟩ := hd_ 23 rfl
          obtain rfl : (.bool true : Value) = v23 := Eq.symm r23
          refine W.step [(0, _), (57, _)] (Sub.cons (hs_ _ _ rfl) (Sub.cons (e23 _ rfl) (Sub.refl _))) ?_
          refine W.wants rfl rfl rfl rfl ?_
          refine W.move rfl rfl ?_
          refine W.nil ?_
          exact At.step (Ext.refl _) rfl
        refine And.intro ?_ ?_
        · intro L_ wr7 hX_ hs_ hf_ hd_
          obtain ⟨v26, e26, r26⟩ := hd_ 26 rfl
          obtain rfl : (.int .u64 (x : Int) : Value) = v26 := Eq.symm r26
          obtain ⟨v23, e23, r23⟩ := hd_ 23 rfl
          obtain rfl : (.bool true : Value) = v23 := Eq.symm r23
          refine W.step [(60, _), (57, _)] (Sub.cons (e26 _ rfl) (Sub.cons (e23 _ rfl) (Sub.refl _))) ?_
          refine W.wants rfl rfl rfl rfl ?_
          refine W.call Try.call19 rfl (Grp.RBase_ok x (by omega) _) rfl ?_
          rintro v61 w61' ⟨rfl, rfl⟩
          rw [← hX]
          refine W.nil ?_
          exact At.step (Ext.refl _) rfl
        refine And.intro ?_ ?_
        · intro L_ wr7 hX_ hs_ hf_ hd_
          obtain ⟨v27, e27, r27⟩ := hd_ 27 rfl
          obtain rfl : (.int .u64 (X : Int) : Value) = v27 := Eq.symm r27
          obtain ⟨v23, e23, r23⟩ := hd_ 23 rfl
          obtain rfl : (.bool true : Value) = v23 := Eq.symm r23
          refine W.step [(61, _), (57, _)] (Sub.cons (e27 _ rfl) (Sub.cons (e23 _ rfl) (Sub.refl _))) ?_
          refine W.wants rfl rfl rfl rfl ?_
          refine W.call Try.call22 rfl (Let.RName_ok X _) rfl ?_
          rintro v62 w62 ⟨rfl, hX62⟩
          refine W.nil ?_
          exact At.step hX62 rfl
        refine And.intro ?_ ?_
        · intro L_ wr7 hX_ hs_ hf_ hd_
          obtain ⟨v25, e25, r25⟩ := hd_ 25 rfl
          obtain rfl : (keyV (nameV X) : Value) = v25 := Eq.symm r25
          obtain ⟨v28, e28, r28⟩ := hd_ 28 rfl
          obtain rfl : (keyV (nameV X) : Value) = v28 := Eq.symm r28
          obtain ⟨v23, e23, r23⟩ := hd_ 23 rfl
          obtain rfl : (.bool true : Value) = v23 := Eq.symm r23
          refine W.step [(59, _), (62, _), (57, _)] (Sub.cons (e25 _ rfl) (Sub.cons (e28 _ rfl) (Sub.cons (e23 _ rfl) (Sub.refl _)))) ?_
          refine W.wants rfl rfl rfl rfl ?_
          refine W.eqlKey (a := nameV X) (b := nameV X) Try.underlying23 Try.underlying5 (by kernel_rfl) rfl rfl hKX hKX (by kernel_rfl) rfl ?_
          refine W.eqv (bT (rfl)) ?_
          refine W.nil ?_
          exact At.step (Ext.refl _) rfl
        refine And.intro ?_ ?_
        · intro L_ wr7 hX_ hs_ hf_ hd_
          obtain ⟨v23, e23, r23⟩ := hd_ 23 rfl
          obtain rfl : (.bool true : Value) = v23 := Eq.symm r23
          obtain ⟨v29, e29, r29⟩ := hd_ 29 rfl
          obtain rfl : (.bool true : Value) = v29 := Eq.symm r29
          refine W.step [(57, _), (63, _)] (Sub.cons (e23 _ rfl) (Sub.cons (e29 _ rfl) (Sub.refl _))) ?_
          refine W.pickT rfl rfl rfl ?_
          refine W.nil ?_
          exact At.step (Ext.refl _) rfl
        refine And.intro ?_ ?_
        · intro L_ wr7 hX_ hs_ hf_ hd_
          obtain ⟨v30, e30, r30⟩ := hd_ 30 rfl
          obtain rfl : (.bool true : Value) = v30 := Eq.symm r30
          refine W.step [(64, _)] (Sub.cons (e30 _ rfl) (Sub.refl _)) ?_
          refine W.assign rfl rfl ?_
          refine W.nil ?_
          exact At.step (Ext.refl _) rfl
        exact trivial
      · intro L_ wr7 hX7 hs_ hv_
        obtain ⟨v31, e31, r31⟩ := hv_ 31 (by decide)
        obtain rfl : (.bool true : Value) = v31 := Eq.symm r31
        refine W.weaken (l' := [(10, _), (0, _), (12, _), (13, _), (14, _)]) (Sub.cons (e31 _ rfl) (Sub.cons (hs_ _ _ rfl) (Sub.cons (hs_ _ _ rfl) (Sub.cons (hs_ _ _ rfl) (Sub.cons (hs_ _ _ rfl) (Sub.nil)))))) ?_
        refine W.nil ?_
        refine At.thenCode ?_
        refine C.ret ?_
        refine At.ret1 Try.results6 rfl ?_
        exact ⟨rfl, Ext.below (hXd.ext hX7)⟩
end Go.Proofs.Ytkjmllohbohliaa.Law17
