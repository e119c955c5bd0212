/- The walk of chapter 17's law on talks. -/
import Derived.Test.YtkjmllohbohliaaLaw17
import Derived.Test.YtkjmllohbohliaaLet6
namespace Go.Proofs.Ytkjmllohbohliaa.Law17
open Go Go.RowKit Go.Proofs.Ytkjmllohbohliaa.KW Go.Proofs.Ytkjmllohbohliaa.Words Go.Proofs.Ytkjmllohbohliaa.Sha Go.Proofs.Ytkjmllohbohliaa.RSha Go.Proofs.Ytkjmllohbohliaa.Derive Go.Proofs.Ytkjmllohbohliaa.Seal Go.Proofs.Ytkjmllohbohliaa.Grp Go.Proofs.Ytkjmllohbohliaa.Cod Go.Proofs.Ytkjmllohbohliaa.Let
set_option linter.unusedVariables false
set_option linter.unusedSimpArgs false
set_option maxRecDepth 100000
def noteK : List IntKind := [.u64, .u64] ++ List.replicate 32 .u8
theorem noteC_typed {n : NoteD} (h : NoteOk n) : Typed noteK (noteC n) := by
  unfold noteK noteC
  refine Typed.append ⟨⟨_, rfl⟩, ⟨_, rfl⟩, trivial⟩ ?_
  rw [← h.2.2]
  exact Typed.bytes _
theorem between_comm (x y : Nat) (k : List UInt8) (m : Nat) : betweenV y (timesV 37 x) k m = betweenV x (timesV 37 y) k m := by
  unfold betweenV
  rw [times_comm]
theorem talk_opens (x y m : Nat) (n : NoteD) : openOk (betweenV y (timesV 37 x) (nameV (timesV 37 y)) m) (nameV (timesV 37 y)) (talkB x (timesV 37 y) m n) ∧ openV (betweenV y (timesV 37 x) (nameV (timesV 37 y)) m) (nameV (timesV 37 y)) (talkB x (timesV 37 y) m n) = noteB n := by
  rw [between_comm]
  exact open_seal _ _ _
theorem LetterTalks_walk (x y : Nat) (i : Int) (n : NoteD) (w : World) (hx : x < 18446744073709551616) (hy : y < 18446744073709551616) (hi : -9223372036854775808 ≤ i ∧ i ≤ 9223372036854775807) (hn : NoteOk n) :
    Ct Try.prog 9 #[.int .u64 (x : Int), .int .u64 (y : Int), .int .i64 i, .agg (noteC n).toArray] w (LawOk w) := by
  refine Ct.enter [(0, .int .u64 (x : Int)), (1, .int .u64 (y : Int)), (2, .int .i64 i), (3, .agg (noteC n).toArray)] Try.func9 rfl rfl rfl rfl ?_
  have hl1 := noteC_length hn
  obtain ⟨m, hm⟩ : ∃ m, iu 18446744073709551616 i = m := ⟨_, rfl⟩
  obtain ⟨hop, hov⟩ := talk_opens x y m n
  have ht1 := talkB_length (x := x) (y := timesV 37 y) (m := m) hn
  have hKY := nameV_length (timesV 37 y)
  have hKX := nameV_length (timesV 37 x)
  refine C.seq ?_
  refine C.region ?_
  refine W.box (noteC n) rfl rfl rfl ?_
  intro g7 w7 hg7 hX7 hN7
  refine W.assign rfl rfl ?_
  refine W.nil ?_
  refine At.thenCode ?_
  refine C.seq ?_
  refine C.region ?_
  refine W.call Try.call17 rfl (Law17.alive_ok _) rfl ?_
  rintro v15 w15 ⟨rfl, hX15⟩
  have hXa := hX7.ext hX15
  have hN7a := hN7.ext hX15
  refine W.assign rfl rfl ?_
  refine W.nil ?_
  refine At.thenCode ?_
  refine C.seq ?_
  refine C.seq ?_
  refine C.region ?_
  refine W.move rfl rfl ?_
  first | refine W.notD rfl rfl ?_ | refine W.notB rfl rfl ?_
  refine W.eqv (v' := .bool false) (rfl) ?_
  refine W.nil ?_
  refine At.thenCode ?_
  refine C.condF rfl ?_
  refine C.skip ?_
  refine At.thenCode ?_
  refine C.seq ?_
  refine C.region ?_
  refine W.move rfl rfl ?_
  refine W.call Try.call19 rfl (Grp.RBase_ok x (by omega) _) rfl ?_
  rintro v20 w20 ⟨rfl, rfl⟩
  refine W.assign rfl rfl ?_
  refine W.nil ?_
  refine At.thenCode ?_
  refine C.seq ?_
  refine C.region ?_
  refine W.move rfl rfl ?_
  refine W.call Try.call19 rfl (Grp.RBase_ok y (by omega) _) rfl ?_
  rintro v22 w22 ⟨rfl, rfl⟩
  refine W.assign rfl rfl ?_
  refine W.nil ?_
  refine At.thenCode ?_
  refine C.seq ?_
  refine C.region ?_
  refine W.move rfl rfl ?_
  refine W.move rfl rfl ?_
  refine W.move rfl rfl ?_
  refine W.loadA rfl (hN7a.cells (o := 0)) Try.underlying34 rfl (by rw [List.drop_zero, hl1]; kernel_rfl) rfl ?_
  rw [List.drop_zero]
  refine W.call Try.call18 rfl (Let.Talk_ok x (timesV 37 y) i m n _ hx hm hn) rfl ?_
  rintro v27 w27 ⟨⟨a27, c27, rfl, hb27, hq27⟩, hX27⟩
  refine W.alloc (z := .agg zeroLetC.toArray) zeroLetC (by kernel_rfl) rfl rfl ?_
  intro g12 w12 hg12 hX12 hB12
  refine W.storeA (letC (nameV (timesV 37 y)) (.slice a27 (talkB x (timesV 37 y) m n).length c27)) rfl rfl hB12 (by rw [letC_length hKY]; rfl) (by rw [letC_length hKY]; kernel_rfl) (letC_one _ _ _ _) ?_
  intro w41 hc41 hB41
  have hX41 : Ext w27 w41 := hX12.news hc41 fun k hk => Or.inr (by omega)
  have hXb := (hXa.ext hX27).ext hX41
  have hN7b := (hN7a.ext hX27).ext hX41
  have hbA := hb27.ext hX41
  refine W.nil ?_
  refine At.thenCode ?_
  refine C.seq ?_
  refine C.seq ?_
  refine C.regionAny 18 ((fun v w => v = .agg (letC (nameV (timesV 37 y)) (.slice a27 (talkB x (timesV 37 y) m n).length c27)).toArray) :: (fun v w => v = .int .u64 (x : Int)) :: (fun v w => v = .int .u64 ((timesV 37 y : Nat) : Int)) :: (fun v w => v = .int .i64 i) :: (fun v w => v = .agg (noteC n).toArray) :: (fun v w => NewLet w41 w v (nameV (timesV 37 y)) (talkB x (timesV 37 y) m n)) :: (fun v w => v = .bool true) :: (fun v w => v = .bool false) :: (fun v w => v = .bool false) :: (fun v w => v = .int .u64 (x : Int)) :: (fun v w => v = .int .i64 i) :: (fun v w => NewLet w41 w v (nameV (timesV 37 x)) (loopB x m)) :: (fun v w => v = .int .u64 (x : Int)) :: (fun v w => v = .int .i64 i) :: (fun v w => NewLet w41 w v (nameV (timesV 37 x)) (loopB x m)) :: (fun v w => v = .bool true) :: (fun v w => v = .bool false) :: (fun v w => v = .bool false) :: []) [(0, .int .u64 (x : Int)), (1, .int .u64 (y : Int)), (2, .int .i64 i), (7, .pointer (some ⟨g7, 0, none⟩)), (10, .int .u64 ((timesV 37 x : Nat) : Int)), (11, .int .u64 ((timesV 37 y : Nat) : Int)), (12, .pointer (some ⟨g12, 0, none⟩))] [] (Sub.cons (rfl) (Sub.cons (rfl) (Sub.cons (rfl) (Sub.cons (rfl) (Sub.cons (rfl) (Sub.cons (rfl) (Sub.cons (rfl) (Sub.nil)))))))) (Sub.nil) (Sub.cons (rfl) (Sub.cons (rfl) (Sub.cons (rfl) (Sub.cons (rfl) (Sub.cons (rfl) (Sub.cons (rfl) (Sub.cons (rfl) (Sub.nil)))))))) (by kernel_rfl) rfl rfl rfl (And.intro (fun _ _ _ h _ => h) (And.intro (fun _ _ _ h _ => h) (And.intro (fun _ _ _ h _ => h) (And.intro (fun _ _ _ h _ => h) (And.intro (fun _ _ _ h _ => h) (And.intro (fun _ _ _ ⟨a, c, e, h, q⟩ g => ⟨a, c, e, Sl.ext h g, q⟩) (And.intro (fun _ _ _ h _ => h) (And.intro (fun _ _ _ h _ => h) (And.intro (fun _ _ _ h _ => h) (And.intro (fun _ _ _ h _ => h) (And.intro (fun _ _ _ h _ => h) (And.intro (fun _ _ _ ⟨a, c, e, h, q⟩ g => ⟨a, c, e, Sl.ext h g, q⟩) (And.intro (fun _ _ _ h _ => h) (And.intro (fun _ _ _ h _ => h) (And.intro (fun _ _ _ ⟨a, c, e, h, q⟩ g => ⟨a, c, e, Sl.ext h g, q⟩) (And.intro (fun _ _ _ h _ => h) (And.intro (fun _ _ _ h _ => h) (And.intro (fun _ _ _ h _ => h) (trivial))))))))))))))))))) ?_ ?_
  · refine And.intro ?_ ?_
    · intro L_ wr hX_ hs_ hf_ hd_
      refine W.step [(12, _)] (Sub.cons (hs_ _ _ rfl) (Sub.refl _)) ?_
      refine W.loadA rfl ((hB41.ext hX_).cells (o := 0)) Try.underlying36 rfl (by rw [List.drop_zero, letC_length hKY]; kernel_rfl) rfl ?_
      rw [List.drop_zero]
      refine W.nil ?_
      exact At.step (Ext.refl _) rfl
    refine And.intro ?_ ?_
    · intro L_ wr hX_ hs_ hf_ hd_
      refine W.step [(0, _)] (Sub.cons (hs_ _ _ rfl) (Sub.refl _)) ?_
      refine W.move rfl rfl ?_
      refine W.nil ?_
      exact At.step (Ext.refl _) rfl
    refine And.intro ?_ ?_
    · intro L_ wr hX_ hs_ hf_ hd_
      refine W.step [(11, _)] (Sub.cons (hs_ _ _ rfl) (Sub.refl _)) ?_
      refine W.move rfl rfl ?_
      refine W.nil ?_
      exact At.step (Ext.refl _) rfl
    refine And.intro ?_ ?_
    · intro L_ wr hX_ hs_ hf_ hd_
      refine W.step [(2, _)] (Sub.cons (hs_ _ _ rfl) (Sub.refl _)) ?_
      refine W.move rfl rfl ?_
      refine W.nil ?_
      exact At.step (Ext.refl _) rfl
    refine And.intro ?_ ?_
    · intro L_ wr hX_ hs_ hf_ hd_
      refine W.step [(7, _)] (Sub.cons (hs_ _ _ rfl) (Sub.refl _)) ?_
      refine W.loadA rfl ((hN7b.ext hX_).cells (o := 0)) Try.underlying34 rfl (by rw [List.drop_zero, hl1]; kernel_rfl) rfl ?_
      rw [List.drop_zero]
      refine W.nil ?_
      exact At.step (Ext.refl _) rfl
    refine And.intro ?_ ?_
    · intro L_ wr hX_ hs_ hf_ hd_
      obtain ⟨v1, e1, r1⟩ := hd_ 1 rfl
      obtain rfl : (.int .u64 (x : Int) : Value) = v1 := Eq.symm r1
      obtain ⟨v2, e2, r2⟩ := hd_ 2 rfl
      obtain rfl : (.int .u64 ((timesV 37 y : Nat) : Int) : Value) = v2 := Eq.symm r2
      obtain ⟨v3, e3, r3⟩ := hd_ 3 rfl
      obtain rfl : (.int .i64 i : Value) = v3 := Eq.symm r3
      obtain ⟨v4, e4, r4⟩ := hd_ 4 rfl
      obtain rfl : (.agg (noteC n).toArray : Value) = v4 := Eq.symm r4
      refine W.step [(29, _), (30, _), (31, _), (32, _)] (Sub.cons (e1 _ rfl) (Sub.cons (e2 _ rfl) (Sub.cons (e3 _ rfl) (Sub.cons (e4 _ rfl) (Sub.refl _))))) ?_
      refine W.call Try.call27 rfl (Let.RTalk_ok x (timesV 37 y) i m n _ hx hm hn) rfl ?_
      rintro v33 w33 ⟨⟨a33, c33, rfl, hb33, hq33⟩, hX33⟩
      refine W.nil ?_
      exact At.step hX33 ⟨a33, c33, rfl, hb33, fun ad e => Nat.le_trans hX_.size (hq33 ad e)⟩
    refine And.intro ?_ ?_
    · intro L_ wr hX_ hs_ hf_ hd_
      obtain ⟨v0, e0, r0⟩ := hd_ 0 rfl
      obtain rfl : (.agg (letC (nameV (timesV 37 y)) (.slice a27 (talkB x (timesV 37 y) m n).length c27)).toArray : Value) = v0 := Eq.symm r0
      obtain ⟨v5, e5, r5⟩ := hd_ 5 rfl
      obtain ⟨a5, c5, rfl, hb5, hq5⟩ := r5
      refine W.step [(28, _), (33, _)] (Sub.cons (e0 _ rfl) (Sub.cons (e5 _ rfl) (Sub.refl _))) ?_
      refine W.call Try.call25 rfl (Let.same_ok (nameV (timesV 37 y)) a27 c27 a5 c5 (talkB x (timesV 37 y) m n) _ hKY (hbA.ext hX_) hb5) rfl ?_
      rintro v34 w34 ⟨rfl, hX34⟩
      refine W.nil ?_
      exact At.step hX34 rfl
    refine And.intro ?_ ?_
    · intro L_ wr hX_ hs_ hf_ hd_
      obtain ⟨v6, e6, r6⟩ := hd_ 6 rfl
      obtain rfl : (.bool true : Value) = v6 := Eq.symm r6
      refine W.step [(34, _)] (Sub.cons (e6 _ rfl) (Sub.refl _)) ?_
      first | refine W.notD rfl rfl ?_ | refine W.notB rfl rfl ?_
      refine W.eqv (v' := .bool false) (rfl) ?_
      refine W.nil ?_
      exact At.step (Ext.refl _) rfl
    refine And.intro ?_ ?_
    · intro L_ wr hX_ hs_ hf_ hd_
      obtain ⟨v7, e7, r7⟩ := hd_ 7 rfl
      obtain rfl : (.bool false : Value) = v7 := Eq.symm r7
      refine W.step [(35, _)] (Sub.cons (e7 _ rfl) (Sub.refl _)) ?_
      refine W.move rfl rfl ?_
      refine W.nil ?_
      exact At.step (Ext.refl _) rfl
    refine And.intro ?_ ?_
    · intro L_ wr hX_ hs_ hf_ hd_
      obtain ⟨v8, e8, r8⟩ := hd_ 8 rfl
      obtain rfl : (.bool false : Value) = v8 := Eq.symm r8
      refine W.step [(0, _), (36, _)] (Sub.cons (hs_ _ _ rfl) (Sub.cons (e8 _ rfl) (Sub.refl _))) ?_
      refine W.wants rfl rfl rfl rfl ?_
      refine W.move rfl rfl ?_
      refine W.nil ?_
      exact At.step (Ext.refl _) rfl
    refine And.intro ?_ ?_
    · intro L_ wr hX_ hs_ hf_ hd_
      obtain ⟨v8, e8, r8⟩ := hd_ 8 rfl
      obtain rfl : (.bool false : Value) = v8 := Eq.symm r8
      refine W.step [(2, _), (36, _)] (Sub.cons (hs_ _ _ rfl) (Sub.cons (e8 _ rfl) (Sub.refl _))) ?_
      refine W.wants rfl rfl rfl rfl ?_
      refine W.move rfl rfl ?_
      refine W.nil ?_
      exact At.step (Ext.refl _) rfl
    refine And.intro ?_ ?_
    · intro L_ wr hX_ hs_ hf_ hd_
      obtain ⟨v9, e9, r9⟩ := hd_ 9 rfl
      obtain rfl : (.int .u64 (x : Int) : Value) = v9 := Eq.symm r9
      obtain ⟨v10, e10, r10⟩ := hd_ 10 rfl
      obtain rfl : (.int .i64 i : Value) = v10 := Eq.symm r10
      obtain ⟨v8, e8, r8⟩ := hd_ 8 rfl
      obtain rfl : (.bool false : Value) = v8 := Eq.symm r8
      refine W.step [(37, _), (38, _), (36, _)] (Sub.cons (e9 _ rfl) (Sub.cons (e10 _ rfl) (Sub.cons (e8 _ rfl) (Sub.refl _)))) ?_
      refine W.wants rfl rfl rfl rfl ?_
      refine W.call Try.call20 rfl (Let.Loop_ok x i m _ hx hm) rfl ?_
      rintro v39 w39 ⟨⟨a39, c39, rfl, hb39, hq39⟩, hX39⟩
      refine W.nil ?_
      exact At.step hX39 ⟨a39, c39, rfl, hb39, fun ad e => Nat.le_trans hX_.size (hq39 ad e)⟩
    refine And.intro ?_ ?_
    · intro L_ wr hX_ hs_ hf_ hd_
      obtain ⟨v8, e8, r8⟩ := hd_ 8 rfl
      obtain rfl : (.bool false : Value) = v8 := Eq.symm r8
      refine W.step [(0, _), (36, _)] (Sub.cons (hs_ _ _ rfl) (Sub.cons (e8 _ rfl) (Sub.refl _))) ?_
      refine W.wants rfl rfl rfl rfl ?_
      refine W.move rfl rfl ?_
      refine W.nil ?_
      exact At.step (Ext.refl _) rfl
    refine And.intro ?_ ?_
    · intro L_ wr hX_ hs_ hf_ hd_
      obtain ⟨v8, e8, r8⟩ := hd_ 8 rfl
      obtain rfl : (.bool false : Value) = v8 := Eq.symm r8
      refine W.step [(2, _), (36, _)] (Sub.cons (hs_ _ _ rfl) (Sub.cons (e8 _ rfl) (Sub.refl _))) ?_
      refine W.wants rfl rfl rfl rfl ?_
      refine W.move rfl rfl ?_
      refine W.nil ?_
      exact At.step (Ext.refl _) rfl
    refine And.intro ?_ ?_
    · intro L_ wr hX_ hs_ hf_ hd_
      obtain ⟨v12, e12, r12⟩ := hd_ 12 rfl
      obtain rfl : (.int .u64 (x : Int) : Value) = v12 := Eq.symm r12
      obtain ⟨v13, e13, r13⟩ := hd_ 13 rfl
      obtain rfl : (.int .i64 i : Value) = v13 := Eq.symm r13
      obtain ⟨v8, e8, r8⟩ := hd_ 8 rfl
      obtain rfl : (.bool false : Value) = v8 := Eq.symm r8
      refine W.step [(40, _), (41, _), (36, _)] (Sub.cons (e12 _ rfl) (Sub.cons (e13 _ rfl) (Sub.cons (e8 _ rfl) (Sub.refl _)))) ?_
      refine W.wants rfl rfl rfl rfl ?_
      refine W.call Try.call28 rfl (Let.RLoop_ok x i m _ hx hm) rfl ?_
      rintro v42 w42 ⟨⟨a42, c42, rfl, hb42, hq42⟩, hX42⟩
      refine W.nil ?_
      exact At.step hX42 ⟨a42, c42, rfl, hb42, fun ad e => Nat.le_trans hX_.size (hq42 ad e)⟩
    refine And.intro ?_ ?_
    · intro L_ wr hX_ hs_ hf_ hd_
      obtain ⟨v11, e11, r11⟩ := hd_ 11 rfl
      obtain ⟨a11, c11, rfl, hb11, hq11⟩ := r11
      obtain ⟨v14, e14, r14⟩ := hd_ 14 rfl
      obtain ⟨a14, c14, rfl, hb14, hq14⟩ := r14
      obtain ⟨v8, e8, r8⟩ := hd_ 8 rfl
      obtain rfl : (.bool false : Value) = v8 := Eq.symm r8
      refine W.step [(39, _), (42, _), (36, _)] (Sub.cons (e11 _ rfl) (Sub.cons (e14 _ rfl) (Sub.cons (e8 _ rfl) (Sub.refl _)))) ?_
      refine W.wants rfl rfl rfl rfl ?_
      refine W.call Try.call25 rfl (Let.same_ok (nameV (timesV 37 x)) a11 c11 a14 c14 (loopB x m) _ hKX hb11 hb14) rfl ?_
      rintro v43 w43 ⟨rfl, hX43⟩
      refine W.nil ?_
      exact At.step hX43 rfl
    refine And.intro ?_ ?_
    · intro L_ wr hX_ hs_ hf_ hd_
      obtain ⟨v15, e15, r15⟩ := hd_ 15 rfl
      obtain rfl : (.bool true : Value) = v15 := Eq.symm r15
      obtain ⟨v8, e8, r8⟩ := hd_ 8 rfl
      obtain rfl : (.bool false : Value) = v8 := Eq.symm r8
      refine W.step [(43, _), (36, _)] (Sub.cons (e15 _ rfl) (Sub.cons (e8 _ rfl) (Sub.refl _))) ?_
      refine W.wants rfl rfl rfl rfl ?_
      first | refine W.notD rfl rfl ?_ | refine W.notB rfl rfl ?_
      refine W.eqv (v' := .bool false) (rfl) ?_
      refine W.nil ?_
      exact At.step (Ext.refl _) rfl
    refine And.intro ?_ ?_
    · intro L_ wr hX_ hs_ hf_ hd_
      obtain ⟨v8, e8, r8⟩ := hd_ 8 rfl
      obtain rfl : (.bool false : Value) = v8 := Eq.symm r8
      obtain ⟨v16, e16, r16⟩ := hd_ 16 rfl
      obtain rfl : (.bool false : Value) = v16 := Eq.symm r16
      refine W.step [(36, _), (44, _)] (Sub.cons (e8 _ rfl) (Sub.cons (e16 _ rfl) (Sub.refl _))) ?_
      refine W.pickF rfl rfl rfl ?_
      refine W.nil ?_
      exact At.step (Ext.refl _) rfl
    exact trivial
  · intro L_ wr hX7 hs_ hv_
    obtain ⟨v17, e17, r17⟩ := hv_ 17 (by decide)
    obtain rfl : (.bool false : Value) = v17 := Eq.symm r17
    refine W.weaken (l' := [(45, _), (0, _), (1, _), (2, _), (7, _), (10, _), (11, _), (12, _)]) (Sub.cons (e17 _ rfl) (Sub.cons (hs_ _ _ rfl) (Sub.cons (hs_ _ _ rfl) (Sub.cons (hs_ _ _ rfl) (Sub.cons (hs_ _ _ rfl) (Sub.cons (hs_ _ _ rfl) (Sub.cons (hs_ _ _ rfl) (Sub.cons (hs_ _ _ rfl) (Sub.nil))))))))) ?_
    refine W.nil ?_
    refine At.thenCode ?_
    refine C.condF rfl ?_
    refine C.skip ?_
    refine At.thenCode ?_
    refine C.seq ?_
    refine C.region ?_
    have hX7' := ‹Ext w41 wr›
    refine W.move rfl rfl ?_
    refine W.move rfl rfl ?_
    refine W.move rfl rfl ?_
    refine W.loadA rfl ((hB41.ext hX7').cells (o := 0)) Try.underlying36 rfl (by rw [List.drop_zero, letC_length hKY]; kernel_rfl) rfl ?_
    rw [List.drop_zero]
    refine W.call Try.call29 rfl (Let.Read_ok y (timesV 37 x) i m a27 c27 _ n _ hy hm hn (hbA.ext hX7') (by rw [ht1]; decide) hop hov) rfl ?_
    rintro v51 w51 ⟨rfl, hX51⟩
    refine W.move rfl rfl ?_
    refine W.extract rfl rfl rfl ?_
    refine W.extract rfl rfl rfl ?_
    refine W.eqv (v' := .bool true) (rfl) ?_
    refine W.alloc (z := .agg (noteC zeroNote).toArray) (noteC zeroNote) (by kernel_rfl) rfl rfl ?_
    intro g13 w13 hg13 hX13 hB13
    refine W.storeA (noteC n) rfl rfl hB13 (by rw [hl1]; rfl) (by rw [hl1]; kernel_rfl) (noteC_one _) ?_
    intro w14 hc14 hB14
    have hX14 : Ext wr w14 := (hX51.ext hX13).news hc14 fun k hk => Or.inr (by have := hX51.size; omega)
    have hXc := (hXb.ext hX7').ext hX14
    have hN7c := (hN7b.ext hX7').ext hX14
    refine W.assign rfl rfl ?_
    refine W.nil ?_
    refine At.thenCode ?_
    refine C.seq ?_
    refine C.region ?_
    refine W.move rfl rfl ?_
    refine W.move rfl rfl ?_
    refine W.wants rfl rfl rfl rfl ?_
    refine W.loadA rfl (hB14.cells (o := 0)) Try.underlying34 rfl (by rw [List.drop_zero, hl1]; kernel_rfl) rfl ?_
    rw [List.drop_zero]
    refine W.wants rfl rfl rfl rfl ?_
    refine W.loadA rfl (hN7c.cells (o := 0)) Try.underlying34 rfl (by rw [List.drop_zero, hl1]; kernel_rfl) rfl ?_
    rw [List.drop_zero]
    refine W.wants rfl rfl rfl rfl ?_
    refine W.eqlP (ks := noteK) (by kernel_rfl) (by kernel_rfl) rfl rfl (noteC_typed hn) (noteC_typed hn) (by kernel_rfl) rfl ?_
    refine W.eqv (bT (rfl)) ?_
    refine W.pickT rfl rfl rfl ?_
    refine W.assign rfl rfl ?_
    refine W.nil ?_
    refine At.thenCode ?_
    refine C.ret ?_
    refine At.ret1 Try.results9 rfl ?_
    exact ⟨rfl, Ext.below hXc⟩
end Go.Proofs.Ytkjmllohbohliaa.Law17
