/- The walks of chapter 17's laws on envelopes. -/
import Derived.Test.YtkjmllohbohliaaLaw17
import Derived.Test.YtkjmllohbohliaaLet10
import Derived.Test.YtkjmllohbohliaaLet4
namespace Go.Proofs.Ytkjmllohbohliaa.Law17
open Go Go.RowKit Go.Proofs.Ytkjmllohbohliaa.KW Go.Proofs.Ytkjmllohbohliaa.Words Go.Proofs.Ytkjmllohbohliaa.Sha Go.Proofs.Ytkjmllohbohliaa.RSha Go.Proofs.Ytkjmllohbohliaa.Derive Go.Proofs.Ytkjmllohbohliaa.Seal Go.Proofs.Ytkjmllohbohliaa.Grp Go.Proofs.Ytkjmllohbohliaa.Cod Go.Proofs.Ytkjmllohbohliaa.Let Go.Proofs.Ytkjmllohbohliaa.Modp
set_option linter.unusedVariables false
set_option linter.unusedSimpArgs false
set_option maxRecDepth 100000
/-- What closes an envelope's letter opens it. -/
theorem env_opens (s y : Nat) (k b : List UInt8) (hk : k.length = 32) (hy : y < 18446744073709551616) : OenOk s (envB (timesV 37 s) y k b) ∧ oenK s (envB (timesV 37 s) y k b) = k ∧ oenB s (envB (timesV 37 s) y k b) = b := by
  obtain ⟨X, hX⟩ : ∃ X, X = timesV 37 y := ⟨_, rfl⟩
  have hXr : Rt X := by rw [hX, timesV_right (by decide)]; exact powP_right (by decide) _
  have hXl : X < 18446744073709551616 := Nat.lt_trans hXr.2 (by decide)
  obtain ⟨T, hT⟩ : ∃ T, T = sealedV (timesV 37 s) y := ⟨_, rfl⟩
  have hTX : sealedV X s = T := by rw [hT, hX]; unfold sealedV; rw [times_comm]
  have he : envB (timesV 37 s) y k b = be64 X ++ sealV T [] (k ++ b) := by rw [hT, hX]; rfl
  rw [he]
  have h1 : getE (be64 X ++ sealV T [] (k ++ b)) 0 8 = 0 := getE_0.2 ⟨by omega, by rw [List.length_append, be64_length]; omega⟩
  have h2 : getV (be64 X ++ sealV T [] (k ++ b)) 0 8 = X := by
    unfold getV
    rw [if_pos h1]
    show beNat (((be64 X ++ sealV T [] (k ++ b)).drop 0).take 8) = X
    rw [List.drop_zero, List.take_append_of_le_length (by rw [be64_length]; exact Nat.le_refl _), List.take_of_length_le (by rw [be64_length]; exact Nat.le_refl _), beNat_be64 X hXl]
  have h3 : (be64 X ++ sealV T [] (k ++ b)).drop 8 = sealV T [] (k ++ b) := by
    rw [List.drop_append_of_le_length (by rw [be64_length]; exact Nat.le_refl _), List.drop_of_length_le (by rw [be64_length]; exact Nat.le_refl _), List.nil_append]
  obtain ⟨h4, h5⟩ := open_seal T [] (k ++ b)
  have h6 : oenP s (be64 X ++ sealV T [] (k ++ b)) = k ++ b := by unfold oenP; rw [h2, h3, hTX, h5]
  have hgood : OenOk s (be64 X ++ sealV T [] (k ++ b)) := ⟨⟨h1, by rw [h2]; exact hXr⟩, by rw [h2, h3, hTX]; exact h4, by rw [h6, List.length_append]; omega⟩
  obtain ⟨h7, h8⟩ := oen_good hgood
  refine ⟨hgood, ?_, ?_⟩
  · rw [h7, h6, List.take_append_of_le_length (by omega), List.take_of_length_le (by omega)]
  · rw [h8, h6, List.drop_append_of_le_length (by omega), List.drop_of_length_le (by omega), List.nil_append]
theorem LetterEnvelopes_walk (s y : Nat) (k : List UInt8) (ao : Option Addr) (c : Nat) (b : List UInt8) (w : World) (hs : s < 18446744073709551616) (hy : y < 18446744073709551616) (hk : k.length = 32) (hb : Bs w ao c b) (hl : b.length ≤ 9223372036854775807) :
    Ct Try.prog 7 #[.int .u64 (s : Int), .int .u64 (y : Int), .agg (letC k (.slice ao b.length c)).toArray] w (LawOk w) := by
  refine Ct.enter [(0, .int .u64 (s : Int)), (1, .int .u64 (y : Int)), (2, .agg (letC k (.slice ao b.length c)).toArray)] Try.func7 rfl rfl rfl rfl ?_
  obtain ⟨hgood, hoK, hoB⟩ := env_opens s y k b hk hy
  obtain ⟨E, hE⟩ : ∃ E, E = envB (timesV 37 s) y k b := ⟨_, rfl⟩
  have hEl : E.length = b.length + 56 := by rw [hE]; exact envB_length hk
  rw [← hE] at hgood hoK hoB
  refine C.seq ?_
  refine C.region ?_
  refine W.box (letC k (.slice ao b.length c)) rfl rfl rfl ?_
  intro g5 w5 hg5 hX5 hB5
  refine W.assign rfl rfl ?_
  refine W.nil ?_
  refine At.thenCode ?_
  refine C.seq ?_
  refine C.region ?_
  refine W.call Try.call17 rfl (Law17.alive_ok _) rfl ?_
  rintro v12 w12 ⟨rfl, hX12⟩
  have hXa := hX5.ext hX12
  have hB5a := hB5.ext hX12
  refine W.assign rfl rfl ?_
  refine W.nil ?_
  refine At.thenCode ?_
  refine C.seq ?_
  refine C.seq ?_
  refine C.region ?_
  refine W.move rfl rfl ?_
  first | refine W.notD rfl rfl ?_ | refine W.notB rfl rfl ?_
  refine W.eqv (v' := .bool false) (rfl) ?_
  refine W.move rfl rfl ?_
  refine W.wants rfl rfl rfl rfl ?_
  refine W.fieldB (off := 32) (size := 1) (t := 24) (Fld.of (by kernel_rfl)) rfl rfl rfl ?_
  refine W.wants rfl rfl rfl rfl ?_
  refine W.loadB (v := .slice ao b.length c) rfl Try.underlying24 rfl hB5a (letC_get hk _) rfl ?_
  refine W.wants rfl rfl rfl rfl ?_
  refine W.lenS rfl Try.underlying24 rfl ?_
  refine W.wants rfl rfl rfl rfl ?_
  refine W.gtrI rfl rfl rfl ?_
  refine W.pickF rfl rfl rfl ?_
  refine W.nil ?_
  refine At.thenCode ?_
  first | refine C.condD rfl (fun c20 => ?_) (fun c20 => ?_) | refine C.cond rfl (fun c20 => ?_) (fun c20 => ?_)
  · refine C.seq ?_
    refine C.region ?_
    refine W.move rfl rfl ?_
    refine W.assign rfl rfl ?_
    refine W.nil ?_
    refine At.thenCode ?_
    refine C.ret ?_
    refine At.thenRet ?_
    refine At.ret1 Try.results7 rfl ?_
    exact ⟨rfl, Ext.below hXa⟩
  · have hbl : b.length ≤ 300 := by omega
    refine C.skip ?_
    refine At.thenCode ?_
    refine C.seq ?_
    refine C.region ?_
    refine W.move rfl rfl ?_
    refine W.call Try.call19 rfl (Grp.RBase_ok s hs _) rfl ?_
    rintro v23 w23 ⟨rfl, rfl⟩
    refine W.assign rfl rfl ?_
    refine W.nil ?_
    refine At.thenCode ?_
    refine C.seq ?_
    refine C.region ?_
    refine W.move rfl rfl ?_
    refine W.move rfl rfl ?_
    refine W.loadA rfl (hB5a.cells (o := 0)) Try.underlying36 rfl (by rw [List.drop_zero, letC_length hk]; kernel_rfl) rfl ?_
    rw [List.drop_zero]
    refine W.call Try.call21 rfl (Let.Envelope_ok (timesV 37 s) y k ao c b _ hy hk (hb.ext hXa) (by omega)) rfl ?_
    rintro v27 w27 ⟨hO27, hX27⟩
    rw [← hE] at hO27
    obtain ⟨a27, c27, rfl, hS27, _⟩ := ownsRow_form hO27
    refine W.assign rfl rfl ?_
    refine W.nil ?_
    refine At.thenCode ?_
    refine C.seq ?_
    refine C.region ?_
    refine W.move rfl rfl ?_
    refine W.move rfl rfl ?_
    refine W.call Try.call23 rfl (Let.Open_ok s a27 c27 E _ hs hS27 (by omega)) rfl ?_
    rintro v31 w31 ⟨a31, c31, rfl, hS31, hX31⟩
    rw [hoK, hoB, decide_eq_true hgood]
    rw [hoB] at hS31
    refine W.move rfl rfl ?_
    refine W.extract rfl rfl rfl ?_
    refine W.extract rfl rfl rfl ?_
    refine W.alloc (z := .agg zeroLetC.toArray) zeroLetC (by kernel_rfl) rfl rfl ?_
    intro g10 w10 hg10 hX10 hB10
    refine W.storeA (letC k (.slice a31 b.length c31)) rfl rfl hB10 (by rw [letC_length hk]; rfl) (by rw [letC_length hk]; kernel_rfl) (letC_one _ _ _ _) ?_
    intro w11 hc11 hB11
    have hs31 := hX31.size
    have hX11 : Ext w27 w11 := (hX31.ext hX10).news hc11 fun k hk => Or.inr (by omega)
    have hX11' : Ext w31 w11 := hX10.news hc11 fun k hk => Or.inr (by omega)
    have hXb := (hXa.ext hX27).ext hX11
    have hB5b := (hB5a.ext hX27).ext hX11
    refine W.assign rfl rfl ?_
    refine W.nil ?_
    refine At.thenCode ?_
    refine C.seq ?_
    refine C.regionAny 17 ((fun v w => v = .slice a27 E.length c27) :: (fun v w => v = strV E) :: (fun v w => v = .int .u64 ((timesV 37 s : Nat) : Int)) :: (fun v w => v = .int .u64 (y : Int)) :: (fun v w => v = .agg (letC k (.slice ao b.length c)).toArray) :: (fun v w => Rep w v E) :: (fun v w => v = strV E) :: (fun v w => v = .bool true) :: (fun v w => v = .bool true) :: (fun v w => v = .bool true) :: (fun v w => v = .bool true) :: (fun v w => v = .bool true) :: (fun v w => v = .agg (letC k (.slice a31 b.length c31)).toArray) :: (fun v w => v = .agg (letC k (.slice ao b.length c)).toArray) :: (fun v w => v = .bool true) :: (fun v w => v = .bool true) :: (fun v w => v = .bool true) :: []) [(0, .int .u64 (s : Int)), (1, .int .u64 (y : Int)), (5, .pointer (some ⟨g5, 0, none⟩)), (8, .int .u64 ((timesV 37 s : Nat) : Int)), (9, .slice a27 E.length c27), (10, .pointer (some ⟨g10, 0, none⟩)), (11, .bool true)] [] (Sub.cons (rfl) (Sub.cons (rfl) (Sub.cons (rfl) (Sub.cons (rfl) (Sub.cons (rfl) (Sub.cons (rfl) (Sub.cons (rfl) (Sub.nil)))))))) (Sub.nil) (Sub.cons (rfl) (Sub.cons (rfl) (Sub.cons (rfl) (Sub.cons (rfl) (Sub.cons (rfl) (Sub.cons (rfl) (Sub.cons (rfl) (Sub.nil)))))))) (by kernel_rfl) rfl rfl rfl (And.intro (fun _ _ _ h _ => h) (And.intro (fun _ _ _ h _ => h) (And.intro (fun _ _ _ h _ => h) (And.intro (fun _ _ _ h _ => h) (And.intro (fun _ _ _ h _ => h) (And.intro (fun _ _ _ h g => Rep.ext h g) (And.intro (fun _ _ _ h _ => h) (And.intro (fun _ _ _ h _ => h) (And.intro (fun _ _ _ h _ => h) (And.intro (fun _ _ _ h _ => h) (And.intro (fun _ _ _ h _ => h) (And.intro (fun _ _ _ h _ => h) (And.intro (fun _ _ _ h _ => h) (And.intro (fun _ _ _ h _ => h) (And.intro (fun _ _ _ h _ => h) (And.intro (fun _ _ _ h _ => h) (And.intro (fun _ _ _ h _ => h) (trivial)))))))))))))))))) ?_ ?_
    · refine And.intro ?_ ?_
      · intro L_ wr hX_ hs_ hf_ hd_
        refine W.step [(9, _)] (Sub.cons (hs_ _ _ rfl) (Sub.refl _)) ?_
        refine W.move rfl rfl ?_
        refine W.nil ?_
        exact At.step (Ext.refl _) rfl
      refine And.intro ?_ ?_
      · intro L_ wr hX_ hs_ hf_ hd_
        obtain ⟨v0, e0, r0⟩ := hd_ 0 rfl
        obtain rfl : (.slice a27 E.length c27 : Value) = v0 := Eq.symm r0
        refine W.step [(34, _)] (Sub.cons (e0 _ rfl) (Sub.refl _)) ?_
        refine W.bytesStr Try.underlying24 Try.underlying5 Try.underlying9 rfl ((hS27.ext hX11).ext hX_) rfl ?_
        refine W.nil ?_
        exact At.step (Ext.refl _) rfl
      refine And.intro ?_ ?_
      · intro L_ wr hX_ hs_ hf_ hd_
        refine W.step [(8, _)] (Sub.cons (hs_ _ _ rfl) (Sub.refl _)) ?_
        refine W.move rfl rfl ?_
        refine W.nil ?_
        exact At.step (Ext.refl _) rfl
      refine And.intro ?_ ?_
      · intro L_ wr hX_ hs_ hf_ hd_
        refine W.step [(1, _)] (Sub.cons (hs_ _ _ rfl) (Sub.refl _)) ?_
        refine W.move rfl rfl ?_
        refine W.nil ?_
        exact At.step (Ext.refl _) rfl
      refine And.intro ?_ ?_
      · intro L_ wr hX_ hs_ hf_ hd_
        refine W.step [(5, _)] (Sub.cons (hs_ _ _ rfl) (Sub.refl _)) ?_
        refine W.loadA rfl ((hB5b.ext hX_).cells (o := 0)) Try.underlying36 rfl (by rw [List.drop_zero, letC_length hk]; kernel_rfl) rfl ?_
        rw [List.drop_zero]
        refine W.nil ?_
        exact At.step (Ext.refl _) rfl
      refine And.intro ?_ ?_
      · intro L_ wr hX_ hs_ hf_ hd_
        obtain ⟨v2, e2, r2⟩ := hd_ 2 rfl
        obtain rfl : (.int .u64 ((timesV 37 s : Nat) : Int) : Value) = v2 := Eq.symm r2
        obtain ⟨v3, e3, r3⟩ := hd_ 3 rfl
        obtain rfl : (.int .u64 (y : Int) : Value) = v3 := Eq.symm r3
        obtain ⟨v4, e4, r4⟩ := hd_ 4 rfl
        obtain rfl : (.agg (letC k (.slice ao b.length c)).toArray : Value) = v4 := Eq.symm r4
        refine W.step [(36, _), (37, _), (38, _)] (Sub.cons (e2 _ rfl) (Sub.cons (e3 _ rfl) (Sub.cons (e4 _ rfl) (Sub.refl _)))) ?_
        refine W.call Try.call24 rfl (Let.REnvelope_ok (timesV 37 s) y k ao c b _ hy hk ((hb.ext hXb).ext hX_) (by omega)) rfl ?_
        rintro v39 w39 ⟨hO39, hX39⟩
        rw [← hE] at hO39
        obtain ⟨a39, c39, rfl, hS39, _⟩ := ownsRow_form hO39
        refine W.nil ?_
        exact At.step hX39 ⟨_, _, rfl, hS39⟩
      refine And.intro ?_ ?_
      · intro L_ wr hX_ hs_ hf_ hd_
        obtain ⟨v5, e5, r5⟩ := hd_ 5 rfl
        obtain ⟨a5, c5, rfl, hb5⟩ := r5
        refine W.step [(39, _)] (Sub.cons (e5 _ rfl) (Sub.refl _)) ?_
        refine W.bytesStr Try.underlying24 Try.underlying5 Try.underlying9 rfl hb5 rfl ?_
        refine W.nil ?_
        exact At.step (Ext.refl _) rfl
      refine And.intro ?_ ?_
      · intro L_ wr hX_ hs_ hf_ hd_
        obtain ⟨v1, e1, r1⟩ := hd_ 1 rfl
        obtain rfl : (strV E : Value) = v1 := Eq.symm r1
        obtain ⟨v6, e6, r6⟩ := hd_ 6 rfl
        obtain rfl : (strV E : Value) = v6 := Eq.symm r6
        refine W.step [(35, _), (40, _)] (Sub.cons (e1 _ rfl) (Sub.cons (e6 _ rfl) (Sub.refl _))) ?_
        refine W.eqlStr rfl rfl rfl ?_
        refine W.eqv (bT (rfl)) ?_
        refine W.nil ?_
        exact At.step (Ext.refl _) rfl
      refine And.intro ?_ ?_
      · intro L_ wr hX_ hs_ hf_ hd_
        obtain ⟨v7, e7, r7⟩ := hd_ 7 rfl
        obtain rfl : (.bool true : Value) = v7 := Eq.symm r7
        refine W.step [(41, _)] (Sub.cons (e7 _ rfl) (Sub.refl _)) ?_
        refine W.move rfl rfl ?_
        refine W.nil ?_
        exact At.step (Ext.refl _) rfl
      refine And.intro ?_ ?_
      · intro L_ wr hX_ hs_ hf_ hd_
        obtain ⟨v8, e8, r8⟩ := hd_ 8 rfl
        obtain rfl : (.bool true : Value) = v8 := Eq.symm r8
        refine W.step [(11, _), (42, _)] (Sub.cons (hs_ _ _ rfl) (Sub.cons (e8 _ rfl) (Sub.refl _))) ?_
        refine W.wants rfl rfl rfl rfl ?_
        refine W.move rfl rfl ?_
        refine W.nil ?_
        exact At.step (Ext.refl _) rfl
      refine And.intro ?_ ?_
      · intro L_ wr hX_ hs_ hf_ hd_
        obtain ⟨v8, e8, r8⟩ := hd_ 8 rfl
        obtain rfl : (.bool true : Value) = v8 := Eq.symm r8
        obtain ⟨v9, e9, r9⟩ := hd_ 9 rfl
        obtain rfl : (.bool true : Value) = v9 := Eq.symm r9
        refine W.step [(42, _), (43, _)] (Sub.cons (e8 _ rfl) (Sub.cons (e9 _ rfl) (Sub.refl _))) ?_
        refine W.pickT rfl rfl rfl ?_
        refine W.nil ?_
        exact At.step (Ext.refl _) rfl
      refine And.intro ?_ ?_
      · intro L_ wr hX_ hs_ hf_ hd_
        obtain ⟨v10, e10, r10⟩ := hd_ 10 rfl
        obtain rfl : (.bool true : Value) = v10 := Eq.symm r10
        refine W.step [(44, _)] (Sub.cons (e10 _ rfl) (Sub.refl _)) ?_
        refine W.move rfl rfl ?_
        refine W.nil ?_
        exact At.step (Ext.refl _) rfl
      refine And.intro ?_ ?_
      · intro L_ wr hX_ hs_ hf_ hd_
        obtain ⟨v11, e11, r11⟩ := hd_ 11 rfl
        obtain rfl : (.bool true : Value) = v11 := Eq.symm r11
        refine W.step [(10, _), (45, _)] (Sub.cons (hs_ _ _ rfl) (Sub.cons (e11 _ rfl) (Sub.refl _))) ?_
        refine W.wants rfl rfl rfl rfl ?_
        refine W.loadA rfl ((hB11.ext hX_).cells (o := 0)) Try.underlying36 rfl (by rw [List.drop_zero, letC_length hk]; kernel_rfl) rfl ?_
        rw [List.drop_zero]
        refine W.nil ?_
        exact At.step (Ext.refl _) rfl
      refine And.intro ?_ ?_
      · intro L_ wr hX_ hs_ hf_ hd_
        obtain ⟨v11, e11, r11⟩ := hd_ 11 rfl
        obtain rfl : (.bool true : Value) = v11 := Eq.symm r11
        refine W.step [(5, _), (45, _)] (Sub.cons (hs_ _ _ rfl) (Sub.cons (e11 _ rfl) (Sub.refl _))) ?_
        refine W.wants rfl rfl rfl rfl ?_
        refine W.loadA rfl ((hB5b.ext hX_).cells (o := 0)) Try.underlying36 rfl (by rw [List.drop_zero, letC_length hk]; kernel_rfl) rfl ?_
        rw [List.drop_zero]
        refine W.nil ?_
        exact At.step (Ext.refl _) rfl
      refine And.intro ?_ ?_
      · intro L_ wr hX_ hs_ hf_ hd_
        obtain ⟨v12, e12, r12⟩ := hd_ 12 rfl
        obtain rfl : (.agg (letC k (.slice a31 b.length c31)).toArray : Value) = v12 := Eq.symm r12
        obtain ⟨v13, e13, r13⟩ := hd_ 13 rfl
        obtain rfl : (.agg (letC k (.slice ao b.length c)).toArray : Value) = v13 := Eq.symm r13
        obtain ⟨v11, e11, r11⟩ := hd_ 11 rfl
        obtain rfl : (.bool true : Value) = v11 := Eq.symm r11
        refine W.step [(46, _), (47, _), (45, _)] (Sub.cons (e12 _ rfl) (Sub.cons (e13 _ rfl) (Sub.cons (e11 _ rfl) (Sub.refl _)))) ?_
        refine W.wants rfl rfl rfl rfl ?_
        refine W.call Try.call25 rfl (Let.same_ok k a31 c31 ao c b _ hk ((hS31.ext hX11').ext hX_) ((hb.ext hXb).ext hX_)) rfl ?_
        rintro v48 w48 ⟨rfl, hX48⟩
        refine W.nil ?_
        exact At.step hX48 rfl
      refine And.intro ?_ ?_
      · intro L_ wr hX_ hs_ hf_ hd_
        obtain ⟨v11, e11, r11⟩ := hd_ 11 rfl
        obtain rfl : (.bool true : Value) = v11 := Eq.symm r11
        obtain ⟨v14, e14, r14⟩ := hd_ 14 rfl
        obtain rfl : (.bool true : Value) = v14 := Eq.symm r14
        refine W.step [(45, _), (48, _)] (Sub.cons (e11 _ rfl) (Sub.cons (e14 _ rfl) (Sub.refl _))) ?_
        refine W.pickT rfl rfl rfl ?_
        refine W.nil ?_
        exact At.step (Ext.refl _) rfl
      refine And.intro ?_ ?_
      · intro L_ wr hX_ hs_ hf_ hd_
        obtain ⟨v15, e15, r15⟩ := hd_ 15 rfl
        obtain rfl : (.bool true : Value) = v15 := Eq.symm r15
        refine W.step [(49, _)] (Sub.cons (e15 _ rfl) (Sub.refl _)) ?_
        refine W.assign rfl rfl ?_
        refine W.nil ?_
        exact At.step (Ext.refl _) rfl
      exact trivial
    · intro L_ wr hX7 hs_ hv_
      obtain ⟨v16, e16, r16⟩ := hv_ 16 (by decide)
      obtain rfl : (.bool true : Value) = v16 := Eq.symm r16
      refine W.weaken (l' := [(6, _), (0, _), (1, _), (5, _), (8, _), (9, _), (10, _), (11, _)]) (Sub.cons (e16 _ rfl) (Sub.cons (hs_ _ _ rfl) (Sub.cons (hs_ _ _ rfl) (Sub.cons (hs_ _ _ rfl) (Sub.cons (hs_ _ _ rfl) (Sub.cons (hs_ _ _ rfl) (Sub.cons (hs_ _ _ rfl) (Sub.cons (hs_ _ _ rfl) (Sub.nil))))))))) ?_
      refine W.nil ?_
      refine At.thenCode ?_
      refine C.ret ?_
      refine At.ret1 Try.results7 rfl ?_
      exact ⟨rfl, Ext.below (hXb.ext hX7)⟩
theorem LetterOpens_walk (s : Nat) (ab : Option Addr) (cb : Nat) (xs : List UInt8) (x y : Nat) (k : List UInt8) (ao : Option Addr) (c : Nat) (b : List UInt8) (w : World) (hs : s < 18446744073709551616) (hx : Bs w ab cb xs) (hxl : xs.length ≤ 9223372036854775807) (hx' : x < 18446744073709551616) (hy : y < 18446744073709551616) (hk : k.length = 32) (hb : Bs w ao c b) (hl : b.length ≤ 9223372036854775807) :
    Ct Try.prog 8 #[.int .u64 (s : Int), .slice ab xs.length cb, .int .u64 (x : Int), .int .u64 (y : Int), .agg (letC k (.slice ao b.length c)).toArray] w (LawOk w) := by
  refine Ct.enter [(0, .int .u64 (s : Int)), (1, .slice ab xs.length cb), (2, .int .u64 (x : Int)), (3, .int .u64 (y : Int)), (4, .agg (letC k (.slice ao b.length c)).toArray)] Try.func8 rfl rfl rfl rfl ?_
  obtain ⟨K, hK⟩ : ∃ K, K = oenK s xs := ⟨_, rfl⟩
  have hKl : K.length = 32 := by rw [hK]; exact oenK_length _ _
  obtain ⟨B, hB⟩ : ∃ B, B = oenB s xs := ⟨_, rfl⟩
  obtain ⟨q, hq⟩ : ∃ q, q = decide (OenOk s xs) := ⟨_, rfl⟩
  obtain ⟨E, hE⟩ : ∃ E, E = envB x y k b := ⟨_, rfl⟩
  refine C.seq ?_
  refine C.region ?_
  refine W.box (letC k (.slice ao b.length c)) rfl rfl rfl ?_
  intro g9 w9 hg9 hX9 hB9
  refine W.assign rfl rfl ?_
  refine W.nil ?_
  refine At.thenCode ?_
  refine C.seq ?_
  refine C.region ?_
  refine W.call Try.call17 rfl (Law17.alive_ok _) rfl ?_
  rintro v16 w16 ⟨rfl, hX16⟩
  have hXa := hX9.ext hX16
  have hB9a := hB9.ext hX16
  refine W.assign rfl rfl ?_
  refine W.nil ?_
  refine At.thenCode ?_
  refine C.seq ?_
  refine C.seq ?_
  refine C.region ?_
  refine W.move rfl rfl ?_
  first | refine W.notD rfl rfl ?_ | refine W.notB rfl rfl ?_
  refine W.eqv (v' := .bool false) (rfl) ?_
  refine W.move rfl rfl ?_
  refine W.wants rfl rfl rfl rfl ?_
  refine W.move rfl rfl ?_
  refine W.wants rfl rfl rfl rfl ?_
  refine W.lenS rfl Try.underlying24 rfl ?_
  refine W.wants rfl rfl rfl rfl ?_
  refine W.gtrI rfl rfl rfl ?_
  refine W.pickF rfl rfl rfl ?_
  refine W.move rfl rfl ?_
  first | refine W.splitD (fun g24 => ?_) (fun g24 => ?_) | refine W.splitB (fun g24 => ?_) (fun g24 => ?_)
  · refine W.skips rfl rfl rfl rfl rfl rfl ?_
    refine W.skips rfl rfl rfl rfl rfl rfl ?_
    refine W.skips rfl rfl rfl rfl rfl rfl ?_
    refine W.skips rfl rfl rfl rfl rfl rfl ?_
    refine W.pickT rfl rfl rfl ?_
    refine W.nil ?_
    refine At.thenCode ?_
    refine C.condT rfl ?_
    refine C.seq ?_
    refine C.region ?_
    refine W.move rfl rfl ?_
    refine W.assign rfl rfl ?_
    refine W.nil ?_
    refine At.thenCode ?_
    refine C.ret ?_
    refine At.thenRet ?_
    refine At.ret1 Try.results8 rfl ?_
    first
    | exact ⟨rfl, Ext.below (hXc.ext hX6)⟩
    | exact ⟨rfl, Ext.below hXa⟩
  · refine W.wants rfl rfl rfl rfl ?_
    refine W.fieldB (off := 32) (size := 1) (t := 24) (Fld.of (by kernel_rfl)) rfl rfl rfl ?_
    refine W.wants rfl rfl rfl rfl ?_
    refine W.loadB (v := .slice ao b.length c) rfl Try.underlying24 rfl hB9a (letC_get hk _) rfl ?_
    refine W.wants rfl rfl rfl rfl ?_
    refine W.lenS rfl Try.underlying24 rfl ?_
    refine W.wants rfl rfl rfl rfl ?_
    refine W.gtrI rfl rfl rfl ?_
    refine W.pickF rfl rfl rfl ?_
    refine W.nil ?_
    refine At.thenCode ?_
    first | refine C.condD rfl (fun c29 => ?_) (fun c29 => ?_) | refine C.cond rfl (fun c29 => ?_) (fun c29 => ?_)
    · refine C.seq ?_
      refine C.region ?_
      refine W.move rfl rfl ?_
      refine W.assign rfl rfl ?_
      refine W.nil ?_
      refine At.thenCode ?_
      refine C.ret ?_
      refine At.thenRet ?_
      refine At.ret1 Try.results8 rfl ?_
      first
      | exact ⟨rfl, Ext.below (hXc.ext hX6)⟩
      | exact ⟨rfl, Ext.below hXa⟩
    · have hxs : xs.length ≤ 300 := by first | omega | (simp at *; omega)
      have hbl : b.length ≤ 200 := by first | omega | (simp at *; omega)
      refine C.skip ?_
      refine At.thenCode ?_
      refine C.seq ?_
      refine C.region ?_
      refine W.move rfl rfl ?_
      refine W.move rfl rfl ?_
      refine W.appendB (ys := xs) (xs := []) (base := w16.heap.size) E8 Try.underlying24 rfl rfl (Ow.nil _ _ _) (hx.ext hXa) (by simp; omega) (Nat.le_refl _) rfl ?_
      rw [List.nil_append]
      intro v34 w34 ho34 hg34 _
      have hX34 : Ext w16 w34 := (Chg.of_grown hg34).mono fun k hk => by cases hk
      obtain ⟨a34, c34, rfl, hS34, _⟩ := ownsRow_form ho34
      refine W.call Try.call23 rfl (Let.Open_ok s a34 c34 xs _ hs hS34 (by omega)) rfl ?_
      rintro v35 w35 ⟨a35, c35, rfl, hS35, hX35⟩
      rw [← hK, ← hB, ← hq]
      rw [← hB] at hS35
      refine W.move rfl rfl ?_
      refine W.extract rfl rfl rfl ?_
      refine W.extract rfl rfl rfl ?_
      refine W.alloc (z := .agg zeroLetC.toArray) zeroLetC (by kernel_rfl) rfl rfl ?_
      intro g12 w12 hg12 hX12 hB12
      refine W.storeA (letC K (.slice a35 B.length c35)) rfl rfl hB12 (by rw [letC_length hKl]; rfl) (by rw [letC_length hKl]; kernel_rfl) (letC_one _ _ _ _) ?_
      intro w13 hc13 hB13
      have hs34 := hX34.size
      have hs35 := hX35.size
      have hX13 : Ext w35 w13 := hX12.news hc13 fun k hk => Or.inr (by omega)
      have hXb := ((hXa.ext hX34).ext hX35).ext hX13
      have hB9b := ((hB9a.ext hX34).ext hX35).ext hX13
      refine W.assign rfl rfl ?_
      refine W.nil ?_
      refine At.thenCode ?_
      refine C.seq ?_
      refine C.region ?_
      refine W.move rfl rfl ?_
      refine W.move rfl rfl ?_
      refine W.call Try.call26 rfl (Let.ROpen_ok s ab cb xs _ hs (hx.ext hXb) (by omega)) rfl ?_
      rintro v41 w41 ⟨a41, c41, rfl, hS41, hX41⟩
      rw [← hK, ← hB, ← hq]
      rw [← hB] at hS41
      refine W.move rfl rfl ?_
      refine W.extract rfl rfl rfl ?_
      refine W.extract rfl rfl rfl ?_
      refine W.alloc (z := .agg zeroLetC.toArray) zeroLetC (by kernel_rfl) rfl rfl ?_
      intro g14 w14 hg14 hX14 hB14
      refine W.storeA (letC K (.slice a41 B.length c41)) rfl rfl hB14 (by rw [letC_length hKl]; rfl) (by rw [letC_length hKl]; kernel_rfl) (letC_one _ _ _ _) ?_
      intro w15 hc15 hB15
      have hX15 : Ext w41 w15 := hX14.news hc15 fun k hk => Or.inr (by omega)
      have hX15' := hX41.ext hX15
      have hXc := hXb.ext hX15'
      have hB9c := hB9b.ext hX15'
      have hB13c := hB13.ext hX15'
      refine W.assign rfl rfl ?_
      refine W.nil ?_
      refine At.thenCode ?_
      refine C.seq ?_
      refine C.regionAny 22 ((fun v w => v = .agg (letC K (.slice a35 B.length c35)).toArray) :: (fun v w => v = .agg (letC K (.slice a41 B.length c41)).toArray) :: (fun v w => v = .bool true) :: (fun v w => v = .bool true) :: (fun v w => v = .bool q) :: (fun v w => v = .bool q) :: (fun v w => v = .bool true) :: (fun v w => v = .bool true) :: (fun v w => v = .bool true) :: (fun v w => v = .int .u64 (x : Int)) :: (fun v w => v = .int .u64 (y : Int)) :: (fun v w => v = .agg (letC k (.slice ao b.length c)).toArray) :: (fun v w => Rep w v E) :: (fun v w => v = strV E) :: (fun v w => v = .int .u64 (x : Int)) :: (fun v w => v = .int .u64 (y : Int)) :: (fun v w => v = .agg (letC k (.slice ao b.length c)).toArray) :: (fun v w => Rep w v E) :: (fun v w => v = strV E) :: (fun v w => v = .bool true) :: (fun v w => v = .bool true) :: (fun v w => v = .bool true) :: []) [(2, .int .u64 (x : Int)), (3, .int .u64 (y : Int)), (9, .pointer (some ⟨g9, 0, none⟩)), (12, .pointer (some ⟨g12, 0, none⟩)), (13, .bool q), (14, .pointer (some ⟨g14, 0, none⟩)), (15, .bool q)] [] (Sub.cons (rfl) (Sub.cons (rfl) (Sub.cons (rfl) (Sub.cons (rfl) (Sub.cons (rfl) (Sub.cons (rfl) (Sub.cons (rfl) (Sub.nil)))))))) (Sub.nil) (Sub.cons (rfl) (Sub.cons (rfl) (Sub.cons (rfl) (Sub.cons (rfl) (Sub.cons (rfl) (Sub.cons (rfl) (Sub.cons (rfl) (Sub.nil)))))))) (by kernel_rfl) rfl rfl rfl (And.intro (fun _ _ _ h _ => h) (And.intro (fun _ _ _ h _ => h) (And.intro (fun _ _ _ h _ => h) (And.intro (fun _ _ _ h _ => h) (And.intro (fun _ _ _ h _ => h) (And.intro (fun _ _ _ h _ => h) (And.intro (fun _ _ _ h _ => h) (And.intro (fun _ _ _ h _ => h) (And.intro (fun _ _ _ h _ => h) (And.intro (fun _ _ _ h _ => h) (And.intro (fun _ _ _ h _ => h) (And.intro (fun _ _ _ h _ => h) (And.intro (fun _ _ _ h g => Rep.ext h g) (And.intro (fun _ _ _ h _ => h) (And.intro (fun _ _ _ h _ => h) (And.intro (fun _ _ _ h _ => h) (And.intro (fun _ _ _ h _ => h) (And.intro (fun _ _ _ h g => Rep.ext h g) (And.intro (fun _ _ _ h _ => h) (And.intro (fun _ _ _ h _ => h) (And.intro (fun _ _ _ h _ => h) (And.intro (fun _ _ _ h _ => h) (trivial))))))))))))))))))))))) ?_ ?_
      · refine And.intro ?_ ?_
        · intro L_ wr hX_ hs_ hf_ hd_
          refine W.step [(12, _)] (Sub.cons (hs_ _ _ rfl) (Sub.refl _)) ?_
          refine W.loadA rfl ((hB13c.ext hX_).cells (o := 0)) Try.underlying36 rfl (by rw [List.drop_zero, letC_length hKl]; kernel_rfl) rfl ?_
          rw [List.drop_zero]
          refine W.nil ?_
          exact At.step (Ext.refl _) rfl
        refine And.intro ?_ ?_
        · intro L_ wr hX_ hs_ hf_ hd_
          refine W.step [(14, _)] (Sub.cons (hs_ _ _ rfl) (Sub.refl _)) ?_
          refine W.loadA rfl ((hB15.ext hX_).cells (o := 0)) Try.underlying36 rfl (by rw [List.drop_zero, letC_length hKl]; kernel_rfl) rfl ?_
          rw [List.drop_zero]
          refine W.nil ?_
          exact At.step (Ext.refl _) rfl
        refine And.intro ?_ ?_
        · intro L_ wr hX_ hs_ hf_ hd_
          obtain ⟨v0, e0, r0⟩ := hd_ 0 rfl
          obtain rfl : (.agg (letC K (.slice a35 B.length c35)).toArray : Value) = v0 := Eq.symm r0
          obtain ⟨v1, e1, r1⟩ := hd_ 1 rfl
          obtain rfl : (.agg (letC K (.slice a41 B.length c41)).toArray : Value) = v1 := Eq.symm r1
          refine W.step [(44, _), (45, _)] (Sub.cons (e0 _ rfl) (Sub.cons (e1 _ rfl) (Sub.refl _))) ?_
          refine W.call Try.call25 rfl (Let.same_ok K a35 c35 a41 c41 B _ hKl (((hS35.ext hX13).ext hX15').ext hX_) ((hS41.ext hX15).ext hX_)) rfl ?_
          rintro v46 w46 ⟨rfl, hX46⟩
          refine W.nil ?_
          exact At.step hX46 rfl
        refine And.intro ?_ ?_
        · intro L_ wr hX_ hs_ hf_ hd_
          obtain ⟨v2, e2, r2⟩ := hd_ 2 rfl
          obtain rfl : (.bool true : Value) = v2 := Eq.symm r2
          refine W.step [(46, _)] (Sub.cons (e2 _ rfl) (Sub.refl _)) ?_
          refine W.move rfl rfl ?_
          refine W.nil ?_
          exact At.step (Ext.refl _) rfl
        refine And.intro ?_ ?_
        · intro L_ wr hX_ hs_ hf_ hd_
          obtain ⟨v3, e3, r3⟩ := hd_ 3 rfl
          obtain rfl : (.bool true : Value) = v3 := Eq.symm r3
          refine W.step [(13, _), (47, _)] (Sub.cons (hs_ _ _ rfl) (Sub.cons (e3 _ rfl) (Sub.refl _))) ?_
          refine W.wants rfl rfl rfl rfl ?_
          refine W.move rfl rfl ?_
          refine W.nil ?_
          exact At.step (Ext.refl _) rfl
        refine And.intro ?_ ?_
        · intro L_ wr hX_ hs_ hf_ hd_
          obtain ⟨v3, e3, r3⟩ := hd_ 3 rfl
          obtain rfl : (.bool true : Value) = v3 := Eq.symm r3
          refine W.step [(15, _), (47, _)] (Sub.cons (hs_ _ _ rfl) (Sub.cons (e3 _ rfl) (Sub.refl _))) ?_
          refine W.wants rfl rfl rfl rfl ?_
          refine W.move rfl rfl ?_
          refine W.nil ?_
          exact At.step (Ext.refl _) rfl
        refine And.intro ?_ ?_
        · intro L_ wr hX_ hs_ hf_ hd_
          obtain ⟨v4, e4, r4⟩ := hd_ 4 rfl
          obtain rfl : (.bool q : Value) = v4 := Eq.symm r4
          obtain ⟨v5, e5, r5⟩ := hd_ 5 rfl
          obtain rfl : (.bool q : Value) = v5 := Eq.symm r5
          obtain ⟨v3, e3, r3⟩ := hd_ 3 rfl
          obtain rfl : (.bool true : Value) = v3 := Eq.symm r3
          refine W.step [(48, _), (49, _), (47, _)] (Sub.cons (e4 _ rfl) (Sub.cons (e5 _ rfl) (Sub.cons (e3 _ rfl) (Sub.refl _)))) ?_
          refine W.wants rfl rfl rfl rfl ?_
          refine W.eqlB rfl rfl Try.underlying4 rfl ?_
          refine W.eqv (v' := .bool true) (by simp) ?_
          refine W.nil ?_
          exact At.step (Ext.refl _) rfl
        refine And.intro ?_ ?_
        · intro L_ wr hX_ hs_ hf_ hd_
          obtain ⟨v3, e3, r3⟩ := hd_ 3 rfl
          obtain rfl : (.bool true : Value) = v3 := Eq.symm r3
          obtain ⟨v6, e6, r6⟩ := hd_ 6 rfl
          obtain rfl : (.bool true : Value) = v6 := Eq.symm r6
          refine W.step [(47, _), (50, _)] (Sub.cons (e3 _ rfl) (Sub.cons (e6 _ rfl) (Sub.refl _))) ?_
          refine W.pickT rfl rfl rfl ?_
          refine W.nil ?_
          exact At.step (Ext.refl _) rfl
        refine And.intro ?_ ?_
        · intro L_ wr hX_ hs_ hf_ hd_
          obtain ⟨v7, e7, r7⟩ := hd_ 7 rfl
          obtain rfl : (.bool true : Value) = v7 := Eq.symm r7
          refine W.step [(51, _)] (Sub.cons (e7 _ rfl) (Sub.refl _)) ?_
          refine W.move rfl rfl ?_
          refine W.nil ?_
          exact At.step (Ext.refl _) rfl
        refine And.intro ?_ ?_
        · intro L_ wr hX_ hs_ hf_ hd_
          obtain ⟨v8, e8, r8⟩ := hd_ 8 rfl
          obtain rfl : (.bool true : Value) = v8 := Eq.symm r8
          refine W.step [(2, _), (52, _)] (Sub.cons (hs_ _ _ rfl) (Sub.cons (e8 _ rfl) (Sub.refl _))) ?_
          refine W.wants rfl rfl rfl rfl ?_
          refine W.move rfl rfl ?_
          refine W.nil ?_
          exact At.step (Ext.refl _) rfl
        refine And.intro ?_ ?_
        · intro L_ wr hX_ hs_ hf_ hd_
          obtain ⟨v8, e8, r8⟩ := hd_ 8 rfl
          obtain rfl : (.bool true : Value) = v8 := Eq.symm r8
          refine W.step [(3, _), (52, _)] (Sub.cons (hs_ _ _ rfl) (Sub.cons (e8 _ rfl) (Sub.refl _))) ?_
          refine W.wants rfl rfl rfl rfl ?_
          refine W.move rfl rfl ?_
          refine W.nil ?_
          exact At.step (Ext.refl _) rfl
        refine And.intro ?_ ?_
        · intro L_ wr hX_ hs_ hf_ hd_
          obtain ⟨v8, e8, r8⟩ := hd_ 8 rfl
          obtain rfl : (.bool true : Value) = v8 := Eq.symm r8
          refine W.step [(9, _), (52, _)] (Sub.cons (hs_ _ _ rfl) (Sub.cons (e8 _ rfl) (Sub.refl _))) ?_
          refine W.wants rfl rfl rfl rfl ?_
          refine W.loadA rfl ((hB9c.ext hX_).cells (o := 0)) Try.underlying36 rfl (by rw [List.drop_zero, letC_length hk]; kernel_rfl) rfl ?_
          rw [List.drop_zero]
          refine W.nil ?_
          exact At.step (Ext.refl _) rfl
        refine And.intro ?_ ?_
        · intro L_ wr hX_ hs_ hf_ hd_
          obtain ⟨v9, e9, r9⟩ := hd_ 9 rfl
          obtain rfl : (.int .u64 (x : Int) : Value) = v9 := Eq.symm r9
          obtain ⟨v10, e10, r10⟩ := hd_ 10 rfl
          obtain rfl : (.int .u64 (y : Int) : Value) = v10 := Eq.symm r10
          obtain ⟨v11, e11, r11⟩ := hd_ 11 rfl
          obtain rfl : (.agg (letC k (.slice ao b.length c)).toArray : Value) = v11 := Eq.symm r11
          obtain ⟨v8, e8, r8⟩ := hd_ 8 rfl
          obtain rfl : (.bool true : Value) = v8 := Eq.symm r8
          refine W.step [(53, _), (54, _), (55, _), (52, _)] (Sub.cons (e9 _ rfl) (Sub.cons (e10 _ rfl) (Sub.cons (e11 _ rfl) (Sub.cons (e8 _ rfl) (Sub.refl _))))) ?_
          refine W.wants rfl rfl rfl rfl ?_
          refine W.call Try.call21 rfl (Let.Envelope_ok x y k ao c b _ hy hk ((hb.ext hXc).ext hX_) (by omega)) rfl ?_
          rintro v56 w56 ⟨hO56, hX56⟩
          rw [← hE] at hO56
          obtain ⟨a56, c56, rfl, hS56, _⟩ := ownsRow_form hO56
          refine W.nil ?_
          exact At.step hX56 ⟨_, _, rfl, hS56⟩
        refine And.intro ?_ ?_
        · intro L_ wr hX_ hs_ hf_ hd_
          obtain ⟨v12, e12, r12⟩ := hd_ 12 rfl
          obtain ⟨a12', c12', rfl, hb12⟩ := r12
          obtain ⟨v8, e8, r8⟩ := hd_ 8 rfl
          obtain rfl : (.bool true : Value) = v8 := Eq.symm r8
          refine W.step [(56, _), (52, _)] (Sub.cons (e12 _ rfl) (Sub.cons (e8 _ rfl) (Sub.refl _))) ?_
          refine W.wants rfl rfl rfl rfl ?_
          refine W.bytesStr Try.underlying24 Try.underlying5 Try.underlying9 rfl hb12 rfl ?_
          refine W.nil ?_
          exact At.step (Ext.refl _) rfl
        refine And.intro ?_ ?_
        · intro L_ wr hX_ hs_ hf_ hd_
          obtain ⟨v8, e8, r8⟩ := hd_ 8 rfl
          obtain rfl : (.bool true : Value) = v8 := Eq.symm r8
          refine W.step [(2, _), (52, _)] (Sub.cons (hs_ _ _ rfl) (Sub.cons (e8 _ rfl) (Sub.refl _))) ?_
          refine W.wants rfl rfl rfl rfl ?_
          refine W.move rfl rfl ?_
          refine W.nil ?_
          exact At.step (Ext.refl _) rfl
        refine And.intro ?_ ?_
        · intro L_ wr hX_ hs_ hf_ hd_
          obtain ⟨v8, e8, r8⟩ := hd_ 8 rfl
          obtain rfl : (.bool true : Value) = v8 := Eq.symm r8
          refine W.step [(3, _), (52, _)] (Sub.cons (hs_ _ _ rfl) (Sub.cons (e8 _ rfl) (Sub.refl _))) ?_
          refine W.wants rfl rfl rfl rfl ?_
          refine W.move rfl rfl ?_
          refine W.nil ?_
          exact At.step (Ext.refl _) rfl
        refine And.intro ?_ ?_
        · intro L_ wr hX_ hs_ hf_ hd_
          obtain ⟨v8, e8, r8⟩ := hd_ 8 rfl
          obtain rfl : (.bool true : Value) = v8 := Eq.symm r8
          refine W.step [(9, _), (52, _)] (Sub.cons (hs_ _ _ rfl) (Sub.cons (e8 _ rfl) (Sub.refl _))) ?_
          refine W.wants rfl rfl rfl rfl ?_
          refine W.loadA rfl ((hB9c.ext hX_).cells (o := 0)) Try.underlying36 rfl (by rw [List.drop_zero, letC_length hk]; kernel_rfl) rfl ?_
          rw [List.drop_zero]
          refine W.nil ?_
          exact At.step (Ext.refl _) rfl
        refine And.intro ?_ ?_
        · intro L_ wr hX_ hs_ hf_ hd_
          obtain ⟨v14, e14, r14⟩ := hd_ 14 rfl
          obtain rfl : (.int .u64 (x : Int) : Value) = v14 := Eq.symm r14
          obtain ⟨v15, e15, r15⟩ := hd_ 15 rfl
          obtain rfl : (.int .u64 (y : Int) : Value) = v15 := Eq.symm r15
          obtain ⟨v16, e16, r16⟩ := hd_ 16 rfl
          obtain rfl : (.agg (letC k (.slice ao b.length c)).toArray : Value) = v16 := Eq.symm r16
          obtain ⟨v8, e8, r8⟩ := hd_ 8 rfl
          obtain rfl : (.bool true : Value) = v8 := Eq.symm r8
          refine W.step [(58, _), (59, _), (60, _), (52, _)] (Sub.cons (e14 _ rfl) (Sub.cons (e15 _ rfl) (Sub.cons (e16 _ rfl) (Sub.cons (e8 _ rfl) (Sub.refl _))))) ?_
          refine W.wants rfl rfl rfl rfl ?_
          refine W.call Try.call24 rfl (Let.REnvelope_ok x y k ao c b _ hy hk ((hb.ext hXc).ext hX_) (by omega)) rfl ?_
          rintro v61 w61 ⟨hO61, hX61⟩
          rw [← hE] at hO61
          obtain ⟨a61, c61, rfl, hS61, _⟩ := ownsRow_form hO61
          refine W.nil ?_
          exact At.step hX61 ⟨_, _, rfl, hS61⟩
        refine And.intro ?_ ?_
        · intro L_ wr hX_ hs_ hf_ hd_
          obtain ⟨v17, e17, r17⟩ := hd_ 17 rfl
          obtain ⟨a17, c17, rfl, hb17⟩ := r17
          obtain ⟨v8, e8, r8⟩ := hd_ 8 rfl
          obtain rfl : (.bool true : Value) = v8 := Eq.symm r8
          refine W.step [(61, _), (52, _)] (Sub.cons (e17 _ rfl) (Sub.cons (e8 _ rfl) (Sub.refl _))) ?_
          refine W.wants rfl rfl rfl rfl ?_
          refine W.bytesStr Try.underlying24 Try.underlying5 Try.underlying9 rfl hb17 rfl ?_
          refine W.nil ?_
          exact At.step (Ext.refl _) rfl
        refine And.intro ?_ ?_
        · intro L_ wr hX_ hs_ hf_ hd_
          obtain ⟨v13, e13, r13⟩ := hd_ 13 rfl
          obtain rfl : (strV E : Value) = v13 := Eq.symm r13
          obtain ⟨v18, e18, r18⟩ := hd_ 18 rfl
          obtain rfl : (strV E : Value) = v18 := Eq.symm r18
          obtain ⟨v8, e8, r8⟩ := hd_ 8 rfl
          obtain rfl : (.bool true : Value) = v8 := Eq.symm r8
          refine W.step [(57, _), (62, _), (52, _)] (Sub.cons (e13 _ rfl) (Sub.cons (e18 _ rfl) (Sub.cons (e8 _ rfl) (Sub.refl _)))) ?_
          refine W.wants rfl rfl rfl rfl ?_
          refine W.eqlStr rfl rfl rfl ?_
          refine W.eqv (bT (rfl)) ?_
          refine W.nil ?_
          exact At.step (Ext.refl _) rfl
        refine And.intro ?_ ?_
        · intro L_ wr hX_ hs_ hf_ hd_
          obtain ⟨v8, e8, r8⟩ := hd_ 8 rfl
          obtain rfl : (.bool true : Value) = v8 := Eq.symm r8
          obtain ⟨v19, e19, r19⟩ := hd_ 19 rfl
          obtain rfl : (.bool true : Value) = v19 := Eq.symm r19
          refine W.step [(52, _), (63, _)] (Sub.cons (e8 _ rfl) (Sub.cons (e19 _ rfl) (Sub.refl _))) ?_
          refine W.pickT rfl rfl rfl ?_
          refine W.nil ?_
          exact At.step (Ext.refl _) rfl
        refine And.intro ?_ ?_
        · intro L_ wr hX_ hs_ hf_ hd_
          obtain ⟨v20, e20, r20⟩ := hd_ 20 rfl
          obtain rfl : (.bool true : Value) = v20 := Eq.symm r20
          refine W.step [(64, _)] (Sub.cons (e20 _ rfl) (Sub.refl _)) ?_
          refine W.assign rfl rfl ?_
          refine W.nil ?_
          exact At.step (Ext.refl _) rfl
        exact trivial
      · intro L_ wr hX6 hs_ hv_
        obtain ⟨v21, e21, r21⟩ := hv_ 21 (by decide)
        obtain rfl : (.bool true : Value) = v21 := Eq.symm r21
        refine W.weaken (l' := [(10, _), (2, _), (3, _), (9, _), (12, _), (13, _), (14, _), (15, _)]) (Sub.cons (e21 _ rfl) (Sub.cons (hs_ _ _ rfl) (Sub.cons (hs_ _ _ rfl) (Sub.cons (hs_ _ _ rfl) (Sub.cons (hs_ _ _ rfl) (Sub.cons (hs_ _ _ rfl) (Sub.cons (hs_ _ _ rfl) (Sub.cons (hs_ _ _ rfl) (Sub.nil))))))))) ?_
        refine W.nil ?_
        refine At.thenCode ?_
        refine C.ret ?_
        refine At.ret1 Try.results8 rfl ?_
        first
        | exact ⟨rfl, Ext.below (hXc.ext hX6)⟩
        | exact ⟨rfl, Ext.below hXa⟩
end Go.Proofs.Ytkjmllohbohliaa.Law17
