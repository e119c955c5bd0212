/- The walks of chapter 11's laws: notes. -/
import Derived.Test.YtpjdkobmcjgcjaaCodZ
namespace Go.Proofs.Ytpjdkobmcjgcjaa.Law11
open Go Go.RowKit Go.Proofs.Ytpjdkobmcjgcjaa.KW Go.Proofs.Ytpjdkobmcjgcjaa.Words Go.Proofs.Ytpjdkobmcjgcjaa.Grp Go.Proofs.Ytpjdkobmcjgcjaa.Cod
set_option linter.unusedVariables false
set_option linter.unusedSimpArgs false
set_option maxRecDepth 100000
theorem num_ok (e : Int) (w : World) : Ct Try.prog 14 #[.int .i64 e] w (fun v w' => v = .int .i64 e ∧ w = w') := by
  refine Ct.enter [(0, .int .i64 e)] Try.func14 rfl rfl rfl rfl ?_
  refine C.seq ?_
  refine C.region ?_
  refine W.assign rfl rfl ?_
  refine W.nil ?_
  refine At.thenCode ?_
  refine C.seq ?_
  refine C.region ?_
  refine W.move rfl rfl ?_
  refine W.assign rfl rfl ?_
  refine W.nil ?_
  refine At.thenCode ?_
  refine C.ret ?_
  refine At.ret1 Try.results14 rfl ?_
  exact ⟨rfl, rfl⟩
def noteK : List IntKind := [.u64, .u64] ++ List.replicate 32 .u8
theorem noteC_typed {n : NoteD} (h : NoteOk n) : Typed noteK (noteC n) := by
  unfold noteK noteC
  refine Typed.append ⟨⟨_, rfl⟩, ⟨_, rfl⟩, trivial⟩ ?_
  rw [← h.2.2]
  exact Typed.bytes _
theorem zeroNote_ok : NoteOk zeroNote := ⟨by decide, by decide, by decide⟩
theorem note48 : ([] : List UInt8).length = 0 := rfl
theorem alive_ok (w : World) : Ct Try.prog 10 #[] w (fun v w' => v = .bool true ∧ Ext w w') := by
  refine Ct.enter [] Try.func10 rfl rfl rfl rfl ?_
  have hl48 := noteB_length zeroNote_ok
  obtain ⟨hr1, hr2⟩ := note_read zeroNote zeroNote_ok
  refine C.seq ?_
  refine C.region ?_
  refine W.assign rfl rfl ?_
  refine W.nil ?_
  refine At.thenCode ?_
  refine C.seq ?_
  refine C.region ?_
  refine W.buildS (fs := _) [(0, 1), (1, 1), (2, 32)] (noteC zeroNote) zeroNoteC Try.underlying25 (by kernel_rfl) (by kernel_rfl) rfl rfl rfl ?_
  refine W.call Try.call11 rfl (Cod.Note_ok zeroNote _ zeroNote_ok) rfl ?_
  rintro v5 w5 ⟨ao5, c5, rfl, hN5, hX5⟩
  refine W.assign rfl rfl ?_
  refine W.nil ?_
  refine At.thenCode ?_
  refine C.seq ?_
  refine C.region ?_
  refine W.move rfl rfl ?_
  refine W.call Try.call12 rfl (Cod.ReadNote_ok ao5 c5 (noteB zeroNote) _ hN5.1 (by omega)) rfl ?_
  rintro v8 w8 ⟨rfl, hX8⟩
  rw [hr1, hr2]
  refine W.move rfl rfl ?_
  refine W.extract rfl rfl rfl ?_
  refine W.extract rfl rfl rfl ?_
  refine W.alloc (z := .agg zeroNoteC.toArray) zeroNoteC (by kernel_rfl) rfl rfl ?_
  intro g2 w2 hg2 hX2 hB2
  refine W.storeA (noteC zeroNote) rfl rfl hB2 rfl (by kernel_rfl) (noteC_one _) ?_
  intro w3 hc3 hB3
  refine W.assign rfl rfl ?_
  refine W.nil ?_
  refine At.thenCode ?_
  refine C.seq ?_
  refine C.region ?_
  refine W.move rfl rfl ?_
  refine W.lenS rfl Try.underlying27 rfl ?_
  refine W.eqlI rfl rfl rfl ?_
  refine W.eqv (bT (by omega)) ?_
  refine W.move rfl rfl ?_
  refine W.wants rfl rfl rfl rfl ?_
  refine W.move rfl rfl ?_
  refine W.wants rfl rfl rfl rfl ?_
  refine W.call Try.call14 rfl (Law11.num_ok _ _) rfl ?_
  rintro v16 w16 ⟨rfl, rfl⟩
  refine W.wants rfl rfl rfl rfl ?_
  refine W.eqlI rfl rfl rfl ?_
  refine W.eqv (bT (rfl)) ?_
  refine W.pickT rfl rfl rfl ?_
  refine W.move rfl rfl ?_
  refine W.wants rfl rfl rfl rfl ?_
  refine W.loadA rfl (hB3.cells (o := 0)) Try.underlying25 rfl (by kernel_rfl) rfl ?_
  rw [List.drop_zero]
  refine W.wants rfl rfl rfl rfl ?_
  refine W.buildS (fs := _) [(0, 1), (1, 1), (2, 32)] (noteC zeroNote) zeroNoteC Try.underlying25 (by kernel_rfl) (by kernel_rfl) rfl rfl rfl ?_
  refine W.wants rfl rfl rfl rfl ?_
  refine W.eqlP (ks := noteK) (by kernel_rfl) (by kernel_rfl) rfl rfl (noteC_typed zeroNote_ok) (noteC_typed zeroNote_ok) (by kernel_rfl) rfl ?_
  refine W.eqv (bT (rfl)) ?_
  refine W.pickT rfl rfl rfl ?_
  refine W.assign rfl rfl ?_
  refine W.nil ?_
  refine At.thenCode ?_
  refine C.ret ?_
  refine At.ret1 Try.results10 rfl ?_
  exact ⟨rfl, ((hX5.ext hX8).ext hX2).news hc3 fun k hk => Or.inr (by have := hX5.size; have := hX8.size; omega)⟩
theorem CodecNotes_walk (n : NoteD) (w : World) (hn : NoteOk n) :
    Ct Try.prog 3 #[.agg (noteC n).toArray] w (LawOk w) := by
  refine Ct.enter [(0, .agg (noteC n).toArray)] Try.func3 rfl rfl rfl rfl ?_
  have hl48 := noteB_length hn
  obtain ⟨hr1, hr2⟩ := note_read n hn
  have hnl := noteC_length hn
  refine C.seq ?_
  refine C.region ?_
  refine W.box (noteC n) rfl rfl rfl ?_
  intro g1 w1 hg1 hX1 hB1
  refine W.assign rfl rfl ?_
  refine W.nil ?_
  refine At.thenCode ?_
  refine C.seq ?_
  refine C.region ?_
  refine W.call Try.call10 rfl (Law11.alive_ok _) rfl ?_
  rintro v7 w7 ⟨rfl, hX7⟩
  refine W.assign rfl rfl ?_
  refine W.nil ?_
  refine At.thenCode ?_
  refine C.seq ?_
  refine C.region ?_
  refine W.loadA rfl ((hB1.ext hX7).cells (o := 0)) Try.underlying25 rfl (by rw [List.drop_zero, hnl]; kernel_rfl) rfl ?_
  rw [List.drop_zero]
  refine W.call Try.call11 rfl (Cod.Note_ok n _ hn) rfl ?_
  rintro v9 w9 ⟨ao9, c9, rfl, hN9, hX9⟩
  refine W.assign rfl rfl ?_
  refine W.nil ?_
  refine At.thenCode ?_
  refine C.seq ?_
  refine C.region ?_
  refine W.move rfl rfl ?_
  refine W.call Try.call12 rfl (Cod.ReadNote_ok ao9 c9 (noteB n) _ hN9.1 (by omega)) rfl ?_
  rintro v12 w12 ⟨rfl, hX12⟩
  rw [hr1, hr2]
  refine W.move rfl rfl ?_
  refine W.extract rfl rfl rfl ?_
  refine W.extract rfl rfl rfl ?_
  refine W.alloc (z := .agg zeroNoteC.toArray) zeroNoteC (by kernel_rfl) rfl rfl ?_
  intro g5 w5 hg5 hX5 hB5
  refine W.storeA (noteC n) rfl rfl hB5 (by rw [hnl]; rfl) (by rw [hnl]; kernel_rfl) (noteC_one _) ?_
  intro w6 hc6 hB6
  have hX6 : Ext w12 w6 := hX5.news hc6 fun k hk => Or.inr (by omega)
  have hX6a := ((hX7.ext hX9).ext hX12).ext hX6
  have hB1b := hB1.ext hX6a
  have hb6 := (hN9.1.ext hX12).ext hX6
  refine W.assign rfl rfl ?_
  refine W.nil ?_
  refine At.thenCode ?_
  refine C.seq ?_
  refine C.regionAny 20 ((fun v w => v = .bool true) :: (fun v w => v = .bool true) :: (fun v w => v = .slice ao9 (noteB n).length c9) :: (fun v w => v = strV (noteB n)) :: (fun v w => v = .agg (noteC n).toArray) :: (fun v w => Rep w v (noteB n)) :: (fun v w => v = strV (noteB n)) :: (fun v w => v = .bool true) :: (fun v w => v = .bool true) :: (fun v w => v = .bool true) :: (fun v w => v = .int .i64 ((0 : Nat) : Int)) :: (fun v w => v = .int .i64 ((0 : Nat) : Int)) :: (fun v w => v = .bool true) :: (fun v w => v = .bool true) :: (fun v w => v = .bool true) :: (fun v w => v = .agg (noteC n).toArray) :: (fun v w => v = .agg (noteC n).toArray) :: (fun v w => v = .bool true) :: (fun v w => v = .bool true) :: (fun v w => v = .bool true) :: []) [(1, .pointer (some ⟨g1, 0, none⟩)), (3, .bool true), (4, .slice ao9 (noteB n).length c9), (5, .pointer (some ⟨g5, 0, none⟩)), (6, .int .i64 ((0 : Nat) : Int))] [] (Sub.cons (rfl) (Sub.cons (rfl) (Sub.cons (rfl) (Sub.cons (rfl) (Sub.cons (rfl) (Sub.nil)))))) (Sub.nil) (Sub.cons (rfl) (Sub.cons (rfl) (Sub.cons (rfl) (Sub.cons (rfl) (Sub.cons (rfl) (Sub.nil)))))) (by kernel_rfl) rfl rfl rfl (And.intro (fun _ _ _ h _ => h) (And.intro (fun _ _ _ h _ => h) (And.intro (fun _ _ _ h _ => h) (And.intro (fun _ _ _ h _ => h) (And.intro (fun _ _ _ h _ => h) (And.intro (fun _ _ _ h g => h.ext g) (And.intro (fun _ _ _ h _ => h) (And.intro (fun _ _ _ h _ => h) (And.intro (fun _ _ _ h _ => h) (And.intro (fun _ _ _ h _ => h) (And.intro (fun _ _ _ h _ => h) (And.intro (fun _ _ _ h _ => h) (And.intro (fun _ _ _ h _ => h) (And.intro (fun _ _ _ h _ => h) (And.intro (fun _ _ _ h _ => h) (And.intro (fun _ _ _ h _ => h) (And.intro (fun _ _ _ h _ => h) (And.intro (fun _ _ _ h _ => h) (And.intro (fun _ _ _ h _ => h) (And.intro (fun _ _ _ h _ => h) (trivial))))))))))))))))))))) ?_ ?_
  · refine And.intro ?_ ?_
    · intro L_ wr hX_ hs_ hf_ hd_
      refine W.step [(3, _)] (Sub.cons (hs_ _ _ rfl) (Sub.refl _)) ?_
      refine W.move rfl rfl ?_
      refine W.nil ?_
      exact At.step (Ext.refl _) rfl
    refine And.intro ?_ ?_
    · intro L_ wr hX_ hs_ hf_ hd_
      obtain ⟨v0, e0, r0⟩ := hd_ 0 rfl
      obtain rfl : (.bool true : Value) = v0 := Eq.symm r0
      refine W.step [(15, _)] (Sub.cons (e0 _ rfl) (Sub.refl _)) ?_
      refine W.move rfl rfl ?_
      refine W.nil ?_
      exact At.step (Ext.refl _) rfl
    refine And.intro ?_ ?_
    · intro L_ wr hX_ hs_ hf_ hd_
      obtain ⟨v1, e1, r1⟩ := hd_ 1 rfl
      obtain rfl : (.bool true : Value) = v1 := Eq.symm r1
      refine W.step [(4, _), (16, _)] (Sub.cons (hs_ _ _ rfl) (Sub.cons (e1 _ rfl) (Sub.refl _))) ?_
      refine W.wants rfl rfl rfl rfl ?_
      refine W.move rfl rfl ?_
      refine W.nil ?_
      exact At.step (Ext.refl _) rfl
    refine And.intro ?_ ?_
    · intro L_ wr hX_ hs_ hf_ hd_
      obtain ⟨v2, e2, r2⟩ := hd_ 2 rfl
      obtain rfl : (.slice ao9 (noteB n).length c9 : Value) = v2 := Eq.symm r2
      obtain ⟨v1, e1, r1⟩ := hd_ 1 rfl
      obtain rfl : (.bool true : Value) = v1 := Eq.symm r1
      refine W.step [(17, _), (16, _)] (Sub.cons (e2 _ rfl) (Sub.cons (e1 _ rfl) (Sub.refl _))) ?_
      refine W.wants rfl rfl rfl rfl ?_
      refine W.bytesStr Try.underlying27 Try.underlying5 Try.underlying9 rfl (hb6.ext hX_) rfl ?_
      refine W.nil ?_
      exact At.step (Ext.refl _) rfl
    refine And.intro ?_ ?_
    · intro L_ wr hX_ hs_ hf_ hd_
      obtain ⟨v1, e1, r1⟩ := hd_ 1 rfl
      obtain rfl : (.bool true : Value) = v1 := Eq.symm r1
      refine W.step [(1, _), (16, _)] (Sub.cons (hs_ _ _ rfl) (Sub.cons (e1 _ rfl) (Sub.refl _))) ?_
      refine W.wants rfl rfl rfl rfl ?_
      refine W.loadA rfl ((hB1b.ext hX_).cells (o := 0)) Try.underlying25 rfl (by rw [List.drop_zero, hnl]; kernel_rfl) rfl ?_
      rw [List.drop_zero]
      refine W.nil ?_
      exact At.step (Ext.refl _) rfl
    refine And.intro ?_ ?_
    · intro L_ wr hX_ hs_ hf_ hd_
      obtain ⟨v4, e4, r4⟩ := hd_ 4 rfl
      obtain rfl : (.agg (noteC n).toArray : Value) = v4 := Eq.symm r4
      obtain ⟨v1, e1, r1⟩ := hd_ 1 rfl
      obtain rfl : (.bool true : Value) = v1 := Eq.symm r1
      refine W.step [(19, _), (16, _)] (Sub.cons (e4 _ rfl) (Sub.cons (e1 _ rfl) (Sub.refl _))) ?_
      refine W.wants rfl rfl rfl rfl ?_
      refine W.call Try.call13 rfl (Cod.RNote_ok n _ hn) rfl ?_
      rintro v20 w20 ⟨ao20, c20, rfl, hN20, hX20⟩
      refine W.nil ?_
      exact At.step hX20 ⟨ao20, c20, rfl, hN20.1⟩
    refine And.intro ?_ ?_
    · intro L_ wr hX_ hs_ hf_ hd_
      obtain ⟨v5, e5, r5⟩ := hd_ 5 rfl
      obtain ⟨a5, c5, rfl, hb5⟩ := r5
      obtain ⟨v1, e1, r1⟩ := hd_ 1 rfl
      obtain rfl : (.bool true : Value) = v1 := Eq.symm r1
      refine W.step [(20, _), (16, _)] (Sub.cons (e5 _ rfl) (Sub.cons (e1 _ rfl) (Sub.refl _))) ?_
      refine W.wants rfl rfl rfl rfl ?_
      refine W.bytesStr Try.underlying27 Try.underlying5 Try.underlying9 rfl hb5 rfl ?_
      refine W.nil ?_
      exact At.step (Ext.refl _) rfl
    refine And.intro ?_ ?_
    · intro L_ wr hX_ hs_ hf_ hd_
      obtain ⟨v3, e3, r3⟩ := hd_ 3 rfl
      obtain rfl : (strV (noteB n) : Value) = v3 := Eq.symm r3
      obtain ⟨v6, e6, r6⟩ := hd_ 6 rfl
      obtain rfl : (strV (noteB n) : Value) = v6 := Eq.symm r6
      obtain ⟨v1, e1, r1⟩ := hd_ 1 rfl
      obtain rfl : (.bool true : Value) = v1 := Eq.symm r1
      refine W.step [(18, _), (21, _), (16, _)] (Sub.cons (e3 _ rfl) (Sub.cons (e6 _ rfl) (Sub.cons (e1 _ rfl) (Sub.refl _)))) ?_
      refine W.wants rfl rfl rfl rfl ?_
      refine W.eqlStr rfl rfl rfl ?_
      refine W.eqv (bT (rfl)) ?_
      refine W.nil ?_
      exact At.step (Ext.refl _) rfl
    refine And.intro ?_ ?_
    · intro L_ wr hX_ hs_ hf_ hd_
      obtain ⟨v1, e1, r1⟩ := hd_ 1 rfl
      obtain rfl : (.bool true : Value) = v1 := Eq.symm r1
      obtain ⟨v7, e7, r7⟩ := hd_ 7 rfl
      obtain rfl : (.bool true : Value) = v7 := Eq.symm r7
      refine W.step [(16, _), (22, _)] (Sub.cons (e1 _ rfl) (Sub.cons (e7 _ rfl) (Sub.refl _))) ?_
      refine W.pickT rfl rfl rfl ?_
      refine W.nil ?_
      exact At.step (Ext.refl _) rfl
    refine And.intro ?_ ?_
    · intro L_ wr hX_ hs_ hf_ hd_
      obtain ⟨v8, e8, r8⟩ := hd_ 8 rfl
      obtain rfl : (.bool true : Value) = v8 := Eq.symm r8
      refine W.step [(23, _)] (Sub.cons (e8 _ rfl) (Sub.refl _)) ?_
      refine W.move rfl rfl ?_
      refine W.nil ?_
      exact At.step (Ext.refl _) rfl
    refine And.intro ?_ ?_
    · intro L_ wr hX_ hs_ hf_ hd_
      obtain ⟨v9, e9, r9⟩ := hd_ 9 rfl
      obtain rfl : (.bool true : Value) = v9 := Eq.symm r9
      refine W.step [(6, _), (24, _)] (Sub.cons (hs_ _ _ rfl) (Sub.cons (e9 _ rfl) (Sub.refl _))) ?_
      refine W.wants rfl rfl rfl rfl ?_
      refine W.move rfl rfl ?_
      refine W.nil ?_
      exact At.step (Ext.refl _) rfl
    refine And.intro ?_ ?_
    · intro L_ wr hX_ hs_ hf_ hd_
      obtain ⟨v10, e10, r10⟩ := hd_ 10 rfl
      obtain rfl : (.int .i64 ((0 : Nat) : Int) : Value) = v10 := Eq.symm r10
      obtain ⟨v9, e9, r9⟩ := hd_ 9 rfl
      obtain rfl : (.bool true : Value) = v9 := Eq.symm r9
      refine W.step [(25, _), (24, _)] (Sub.cons (e10 _ rfl) (Sub.cons (e9 _ rfl) (Sub.refl _))) ?_
      refine W.wants rfl rfl rfl rfl ?_
      refine W.call Try.call14 rfl (Law11.num_ok _ _) rfl ?_
      rintro v26 w26 ⟨rfl, rfl⟩
      refine W.nil ?_
      exact At.step (Ext.refl _) rfl
    refine And.intro ?_ ?_
    · intro L_ wr hX_ hs_ hf_ hd_
      obtain ⟨v11, e11, r11⟩ := hd_ 11 rfl
      obtain rfl : (.int .i64 ((0 : Nat) : Int) : Value) = v11 := Eq.symm r11
      obtain ⟨v9, e9, r9⟩ := hd_ 9 rfl
      obtain rfl : (.bool true : Value) = v9 := Eq.symm r9
      refine W.step [(26, _), (24, _)] (Sub.cons (e11 _ rfl) (Sub.cons (e9 _ rfl) (Sub.refl _))) ?_
      refine W.wants rfl rfl rfl rfl ?_
      refine W.eqlI rfl rfl rfl ?_
      refine W.eqv (bT (rfl)) ?_
      refine W.nil ?_
      exact At.step (Ext.refl _) rfl
    refine And.intro ?_ ?_
    · intro L_ wr hX_ hs_ hf_ hd_
      obtain ⟨v9, e9, r9⟩ := hd_ 9 rfl
      obtain rfl : (.bool true : Value) = v9 := Eq.symm r9
      obtain ⟨v12, e12, r12⟩ := hd_ 12 rfl
      obtain rfl : (.bool true : Value) = v12 := Eq.symm r12
      refine W.step [(24, _), (27, _)] (Sub.cons (e9 _ rfl) (Sub.cons (e12 _ rfl) (Sub.refl _))) ?_
      refine W.pickT rfl rfl rfl ?_
      refine W.nil ?_
      exact At.step (Ext.refl _) rfl
    refine And.intro ?_ ?_
    · intro L_ wr hX_ hs_ hf_ hd_
      obtain ⟨v13, e13, r13⟩ := hd_ 13 rfl
      obtain rfl : (.bool true : Value) = v13 := Eq.symm r13
      refine W.step [(28, _)] (Sub.cons (e13 _ rfl) (Sub.refl _)) ?_
      refine W.move rfl rfl ?_
      refine W.nil ?_
      exact At.step (Ext.refl _) rfl
    refine And.intro ?_ ?_
    · intro L_ wr hX_ hs_ hf_ hd_
      obtain ⟨v14, e14, r14⟩ := hd_ 14 rfl
      obtain rfl : (.bool true : Value) = v14 := Eq.symm r14
      refine W.step [(5, _), (29, _)] (Sub.cons (hs_ _ _ rfl) (Sub.cons (e14 _ rfl) (Sub.refl _))) ?_
      refine W.wants rfl rfl rfl rfl ?_
      refine W.loadA rfl ((hB6.ext hX_).cells (o := 0)) Try.underlying25 rfl (by rw [List.drop_zero, hnl]; kernel_rfl) rfl ?_
      rw [List.drop_zero]
      refine W.nil ?_
      exact At.step (Ext.refl _) rfl
    refine And.intro ?_ ?_
    · intro L_ wr hX_ hs_ hf_ hd_
      obtain ⟨v14, e14, r14⟩ := hd_ 14 rfl
      obtain rfl : (.bool true : Value) = v14 := Eq.symm r14
      refine W.step [(1, _), (29, _)] (Sub.cons (hs_ _ _ rfl) (Sub.cons (e14 _ rfl) (Sub.refl _))) ?_
      refine W.wants rfl rfl rfl rfl ?_
      refine W.loadA rfl ((hB1b.ext hX_).cells (o := 0)) Try.underlying25 rfl (by rw [List.drop_zero, hnl]; kernel_rfl) rfl ?_
      rw [List.drop_zero]
      refine W.nil ?_
      exact At.step (Ext.refl _) rfl
    refine And.intro ?_ ?_
    · intro L_ wr hX_ hs_ hf_ hd_
      obtain ⟨v15, e15, r15⟩ := hd_ 15 rfl
      obtain rfl : (.agg (noteC n).toArray : Value) = v15 := Eq.symm r15
      obtain ⟨v16, e16, r16⟩ := hd_ 16 rfl
      obtain rfl : (.agg (noteC n).toArray : Value) = v16 := Eq.symm r16
      obtain ⟨v14, e14, r14⟩ := hd_ 14 rfl
      obtain rfl : (.bool true : Value) = v14 := Eq.symm r14
      refine W.step [(30, _), (31, _), (29, _)] (Sub.cons (e15 _ rfl) (Sub.cons (e16 _ rfl) (Sub.cons (e14 _ rfl) (Sub.refl _)))) ?_
      refine W.wants rfl rfl rfl rfl ?_
      refine W.eqlP (ks := noteK) (by kernel_rfl) (by kernel_rfl) rfl rfl (noteC_typed hn) (noteC_typed hn) (by kernel_rfl) rfl ?_
      refine W.eqv (bT (rfl)) ?_
      refine W.nil ?_
      exact At.step (Ext.refl _) rfl
    refine And.intro ?_ ?_
    · intro L_ wr hX_ hs_ hf_ hd_
      obtain ⟨v14, e14, r14⟩ := hd_ 14 rfl
      obtain rfl : (.bool true : Value) = v14 := Eq.symm r14
      obtain ⟨v17, e17, r17⟩ := hd_ 17 rfl
      obtain rfl : (.bool true : Value) = v17 := Eq.symm r17
      refine W.step [(29, _), (32, _)] (Sub.cons (e14 _ rfl) (Sub.cons (e17 _ rfl) (Sub.refl _))) ?_
      refine W.pickT rfl rfl rfl ?_
      refine W.nil ?_
      exact At.step (Ext.refl _) rfl
    refine And.intro ?_ ?_
    · intro L_ wr hX_ hs_ hf_ hd_
      obtain ⟨v18, e18, r18⟩ := hd_ 18 rfl
      obtain rfl : (.bool true : Value) = v18 := Eq.symm r18
      refine W.step [(33, _)] (Sub.cons (e18 _ rfl) (Sub.refl _)) ?_
      refine W.assign rfl rfl ?_
      refine W.nil ?_
      exact At.step (Ext.refl _) rfl
    exact trivial
  · intro L_ wr hX4 hs_ hv_
    obtain ⟨v19, e19, r19⟩ := hv_ 19 (by decide)
    obtain rfl : (.bool true : Value) = v19 := Eq.symm r19
    refine W.weaken (l' := [(2, _), (1, _), (3, _), (4, _), (5, _), (6, _)]) (Sub.cons (e19 _ rfl) (Sub.cons (hs_ _ _ rfl) (Sub.cons (hs_ _ _ rfl) (Sub.cons (hs_ _ _ rfl) (Sub.cons (hs_ _ _ rfl) (Sub.cons (hs_ _ _ rfl) (Sub.nil))))))) ?_
    refine W.nil ?_
    refine At.thenCode ?_
    refine C.ret ?_
    refine At.ret1 Try.results3 rfl ?_
    exact ⟨rfl, Ext.below ((hX1.ext hX6a).ext hX4)⟩
end Go.Proofs.Ytpjdkobmcjgcjaa.Law11
