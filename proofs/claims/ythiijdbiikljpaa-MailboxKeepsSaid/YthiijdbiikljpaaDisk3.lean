/- Package disk and the reference's disk: Crash. -/
import Derived.Test.YthiijdbiikljpaaDisk2
namespace Go.Proofs.Ythiijdbiikljpaa.Disk
open Go Go.RowKit Go.Proofs.Ythiijdbiikljpaa.KW Go.Proofs.Ythiijdbiikljpaa.Words
set_option linter.unusedVariables false
set_option linter.unusedSimpArgs false
set_option maxRecDepth 100000
theorem Crash_ok (F : Nat → Prop) (g : Nat) (rv : Int) (D : Dsk) (keep : Int) (w : World) (hD : Dk w F g rv D) : Ct Try.prog 26 #[.pointer (some ⟨g, 0, none⟩), .int .i64 keep] w (fun v w' => Dk w' (Grown F w w') g rv (crashD D keep) ∧ Chg F w w') := by
  obtain ⟨bo, cb, fo, cf, h1, h2, h3, h4, h5⟩ := hD.out
  have hsm := hD.ok.small
  have hsy := hD.ok.syn
  obtain ⟨hk1, hk2⟩ := keepN_le hD.ok keep
  have hok := crashD_ok hD.ok keep
  obtain ⟨K, hK⟩ : ∃ K, K = keepN D keep := ⟨_, rfl⟩
  have hcd : crashD D keep = ⟨D.room, D.bs.take K, K, D.fails⟩ := by rw [hK]; rfl
  rw [hcd] at hok ⊢
  rw [← hK] at hk1 hk2
  refine Ct.enter [(0, .pointer (some ⟨g, 0, none⟩)), (1, .int .i64 keep)] Try.func26 rfl rfl rfl rfl ?_
  refine C.seq ?_
  refine C.regionAny 11 ((fun v w => v = .pointer (some ⟨g, 0, none⟩)) :: (fun v w => v = .pointer (some ⟨g, 0, none⟩)) :: (fun v w => v = .pointer (some ⟨g, 1, none⟩)) :: (fun v w => v = .slice bo D.bs.length cb) :: (fun v w => v = .int .i64 (D.bs.length : Int)) :: (fun v w => v = .pointer (some ⟨g, 0, none⟩)) :: (fun v w => v = .pointer (some ⟨g, 0, none⟩)) :: (fun v w => v = .pointer (some ⟨g, 2, none⟩)) :: (fun v w => v = .int .i64 (D.syn : Int)) :: (fun v w => v = .int .i64 ((D.bs.length : Int) - (D.syn : Int))) :: (fun v w => v = .int .i64 ((D.bs.length : Int) - (D.syn : Int))) :: []) [(0, .pointer (some ⟨g, 0, none⟩)), (1, .int .i64 keep)] [] (Sub.cons (rfl) (Sub.cons (rfl) (Sub.nil))) (Sub.nil) (Sub.cons (rfl) (Sub.cons (rfl) (Sub.nil))) (by kernel_rfl) rfl rfl rfl (And.intro (fun _ _ _ h _ => h) (And.intro (fun _ _ _ h _ => h) (And.intro (fun _ _ _ h _ => h) (And.intro (fun _ _ _ h _ => h) (And.intro (fun _ _ _ h _ => h) (And.intro (fun _ _ _ h _ => h) (And.intro (fun _ _ _ h _ => h) (And.intro (fun _ _ _ h _ => h) (And.intro (fun _ _ _ h _ => h) (And.intro (fun _ _ _ h _ => h) (And.intro (fun _ _ _ h _ => h) (trivial)))))))))))) ?_ ?_
  · refine And.intro ?_ ?_
    · intro L_ w1 hX_ hs_ hf_ hd_
      refine W.step [(0, _)] (Sub.cons (hs_ _ _ rfl) (Sub.refl _)) ?_
      refine W.move rfl rfl ?_
      refine W.nil ?_
      exact At.step (Ext.refl _) rfl
    refine And.intro ?_ ?_
    · intro L_ w1 hX_ hs_ hf_ hd_
      obtain ⟨v0, e0, r0⟩ := hd_ 0 rfl
      obtain rfl : (.pointer (some ⟨g, 0, none⟩) : Value) = v0 := Eq.symm r0
      refine W.step [(5, _)] (Sub.cons (e0 _ rfl) (Sub.refl _)) ?_
      refine W.nilCheck rfl rfl ?_
      refine W.nil ?_
      exact At.step (Ext.refl _) rfl
    refine And.intro ?_ ?_
    · intro L_ w1 hX_ hs_ hf_ hd_
      obtain ⟨v1, e1, r1⟩ := hd_ 1 rfl
      obtain rfl : (.pointer (some ⟨g, 0, none⟩) : Value) = v1 := Eq.symm r1
      refine W.step [(6, _)] (Sub.cons (e1 _ rfl) (Sub.refl _)) ?_
      refine W.fieldB (off := 1) (size := 1) (t := 51) (Fld.of (by kernel_rfl)) rfl rfl rfl ?_
      refine W.nil ?_
      exact At.step (Ext.refl _) rfl
    refine And.intro ?_ ?_
    · intro L_ w1 hX_ hs_ hf_ hd_
      obtain ⟨v2, e2, r2⟩ := hd_ 2 rfl
      obtain rfl : (.pointer (some ⟨g, 1, none⟩) : Value) = v2 := Eq.symm r2
      refine W.step [(7, _)] (Sub.cons (e2 _ rfl) (Sub.refl _)) ?_
      refine W.loadB rfl Try.underlying51 rfl (by first | exact Bk.ext (by assumption) hX_ | exact GP.bkOld hX_ (by assumption) (by omega) (by omega) | exact Bk.chg (by assumption) hX_.1 (by omega) | exact Bk.chg (by assumption) hX_ (by rintro ⟨q_, h1_, h2_, h3_⟩; omega)) rfl rfl ?_
      refine W.nil ?_
      exact At.step (Ext.refl _) rfl
    refine And.intro ?_ ?_
    · intro L_ w1 hX_ hs_ hf_ hd_
      obtain ⟨v3, e3, r3⟩ := hd_ 3 rfl
      obtain rfl : (.slice bo D.bs.length cb : Value) = v3 := Eq.symm r3
      refine W.step [(8, _)] (Sub.cons (e3 _ rfl) (Sub.refl _)) ?_
      refine W.lenS rfl Try.underlying51 rfl ?_
      refine W.nil ?_
      exact At.step (Ext.refl _) rfl
    refine And.intro ?_ ?_
    · intro L_ w1 hX_ hs_ hf_ hd_
      refine W.step [(0, _)] (Sub.cons (hs_ _ _ rfl) (Sub.refl _)) ?_
      refine W.move rfl rfl ?_
      refine W.nil ?_
      exact At.step (Ext.refl _) rfl
    refine And.intro ?_ ?_
    · intro L_ w1 hX_ hs_ hf_ hd_
      obtain ⟨v5, e5, r5⟩ := hd_ 5 rfl
      obtain rfl : (.pointer (some ⟨g, 0, none⟩) : Value) = v5 := Eq.symm r5
      refine W.step [(10, _)] (Sub.cons (e5 _ rfl) (Sub.refl _)) ?_
      refine W.nilCheck rfl rfl ?_
      refine W.nil ?_
      exact At.step (Ext.refl _) rfl
    refine And.intro ?_ ?_
    · intro L_ w1 hX_ hs_ hf_ hd_
      obtain ⟨v6, e6, r6⟩ := hd_ 6 rfl
      obtain rfl : (.pointer (some ⟨g, 0, none⟩) : Value) = v6 := Eq.symm r6
      refine W.step [(11, _)] (Sub.cons (e6 _ rfl) (Sub.refl _)) ?_
      refine W.fieldB (off := 2) (size := 1) (t := 3) (Fld.of (by kernel_rfl)) rfl rfl rfl ?_
      refine W.nil ?_
      exact At.step (Ext.refl _) rfl
    refine And.intro ?_ ?_
    · intro L_ w1 hX_ hs_ hf_ hd_
      obtain ⟨v7, e7, r7⟩ := hd_ 7 rfl
      obtain rfl : (.pointer (some ⟨g, 2, none⟩) : Value) = v7 := Eq.symm r7
      refine W.step [(12, _)] (Sub.cons (e7 _ rfl) (Sub.refl _)) ?_
      refine W.loadB rfl Try.underlying3 rfl (by first | exact Bk.ext (by assumption) hX_ | exact GP.bkOld hX_ (by assumption) (by omega) (by omega) | exact Bk.chg (by assumption) hX_.1 (by omega) | exact Bk.chg (by assumption) hX_ (by rintro ⟨q_, h1_, h2_, h3_⟩; omega)) rfl rfl ?_
      refine W.nil ?_
      exact At.step (Ext.refl _) rfl
    refine And.intro ?_ ?_
    · intro L_ w1 hX_ hs_ hf_ hd_
      obtain ⟨v4, e4, r4⟩ := hd_ 4 rfl
      obtain rfl : (.int .i64 (D.bs.length : Int) : Value) = v4 := Eq.symm r4
      obtain ⟨v8, e8, r8⟩ := hd_ 8 rfl
      obtain rfl : (.int .i64 (D.syn : Int) : Value) = v8 := Eq.symm r8
      refine W.step [(9, _), (13, _)] (Sub.cons (e4 _ rfl) (Sub.cons (e8 _ rfl) (Sub.refl _))) ?_
      first | refine W.subI rfl rfl (by omega) rfl ?_ | refine W.subW rfl rfl rfl ?_
      refine W.nil ?_
      exact At.step (Ext.refl _) rfl
    refine And.intro ?_ ?_
    · intro L_ w1 hX_ hs_ hf_ hd_
      obtain ⟨v9, e9, r9⟩ := hd_ 9 rfl
      obtain rfl : (.int .i64 ((D.bs.length : Int) - (D.syn : Int)) : Value) = v9 := Eq.symm r9
      refine W.step [(14, _)] (Sub.cons (e9 _ rfl) (Sub.refl _)) ?_
      refine W.assign rfl rfl ?_
      refine W.nil ?_
      exact At.step (Ext.refl _) rfl
    exact trivial
  · intro L_ w1 hX0 hs_ hv_
    obtain ⟨v10, e10, r10⟩ := hv_ 10 (by decide)
    obtain rfl : (.int .i64 ((D.bs.length : Int) - (D.syn : Int)) : Value) = v10 := Eq.symm r10
    refine W.weaken (l' := [(4, _), (0, _), (1, _)]) (Sub.cons (e10 _ rfl) (Sub.cons (hs_ _ _ rfl) (Sub.cons (hs_ _ _ rfl) (Sub.nil)))) ?_
    refine W.nil ?_
    refine At.thenCode ?_
    refine C.seq ?_
    refine C.regionAny 17 ((fun v w => v = .pointer (some ⟨g, 0, none⟩)) :: (fun v w => v = .pointer (some ⟨g, 0, none⟩)) :: (fun v w => v = .pointer (some ⟨g, 0, none⟩)) :: (fun v w => v = .pointer (some ⟨g, 1, none⟩)) :: (fun v w => v = .slice bo D.bs.length cb) :: (fun v w => v = .pointer (some ⟨g, 0, none⟩)) :: (fun v w => v = .pointer (some ⟨g, 0, none⟩)) :: (fun v w => v = .pointer (some ⟨g, 2, none⟩)) :: (fun v w => v = .int .i64 (D.syn : Int)) :: (fun v w => v = .int .i64 keep) :: (fun v w => v = .int .i64 (max 0 keep)) :: (fun v w => v = .int .i64 ((D.bs.length : Int) - (D.syn : Int))) :: (fun v w => v = .int .i64 (min (max 0 keep) ((D.bs.length : Int) - (D.syn : Int)))) :: (fun v w => v = .int .i64 (K : Int)) :: (fun v w => ∃ bo', v = .slice bo' (D.bs.take K).length cb ∧ Ow w 0 5 v (D.bs.take K) ∧ (∀ ad, bo' = some ad → ∃ a, bo = some a ∧ ad.block = a.block)) :: (fun v w => v = .pointer (some ⟨g, 0, none⟩)) :: (fun v w => v = .pointer (some ⟨g, 1, none⟩)) :: []) [(0, .pointer (some ⟨g, 0, none⟩)), (1, .int .i64 keep), (4, .int .i64 ((D.bs.length : Int) - (D.syn : Int)))] [] (Sub.cons (rfl) (Sub.cons (rfl) (Sub.cons (rfl) (Sub.nil)))) (Sub.nil) (Sub.cons (rfl) (Sub.cons (rfl) (Sub.cons (rfl) (Sub.nil)))) (by kernel_rfl) rfl rfl rfl (And.intro (fun _ _ _ h _ => h) (And.intro (fun _ _ _ h _ => h) (And.intro (fun _ _ _ h _ => h) (And.intro (fun _ _ _ h _ => h) (And.intro (fun _ _ _ h _ => h) (And.intro (fun _ _ _ h _ => h) (And.intro (fun _ _ _ h _ => h) (And.intro (fun _ _ _ h _ => h) (And.intro (fun _ _ _ h _ => h) (And.intro (fun _ _ _ h _ => h) (And.intro (fun _ _ _ h _ => h) (And.intro (fun _ _ _ h _ => h) (And.intro (fun _ _ _ h _ => h) (And.intro (fun _ _ _ h _ => h) (And.intro (fun _ _ _ ⟨bo', hv, ho, hb⟩ g => ⟨bo', hv, ownsRow_ext ho g, hb⟩) (And.intro (fun _ _ _ h _ => h) (And.intro (fun _ _ _ h _ => h) (trivial)))))))))))))))))) ?_ ?_
    · refine And.intro ?_ ?_
      · intro L_ w2 hX_ hs_ hf_ hd_
        refine W.step [(0, _)] (Sub.cons (hs_ _ _ rfl) (Sub.refl _)) ?_
        refine W.move rfl rfl ?_
        refine W.nil ?_
        exact At.step (Ext.refl _) rfl
      refine And.intro ?_ ?_
      · intro L_ w2 hX_ hs_ hf_ hd_
        refine W.step [(0, _)] (Sub.cons (hs_ _ _ rfl) (Sub.refl _)) ?_
        refine W.move rfl rfl ?_
        refine W.nil ?_
        exact At.step (Ext.refl _) rfl
      refine And.intro ?_ ?_
      · intro L_ w2 hX_ hs_ hf_ hd_
        obtain ⟨v1, e1, r1⟩ := hd_ 1 rfl
        obtain rfl : (.pointer (some ⟨g, 0, none⟩) : Value) = v1 := Eq.symm r1
        refine W.step [(16, _)] (Sub.cons (e1 _ rfl) (Sub.refl _)) ?_
        refine W.nilCheck rfl rfl ?_
        refine W.nil ?_
        exact At.step (Ext.refl _) rfl
      refine And.intro ?_ ?_
      · intro L_ w2 hX_ hs_ hf_ hd_
        obtain ⟨v2, e2, r2⟩ := hd_ 2 rfl
        obtain rfl : (.pointer (some ⟨g, 0, none⟩) : Value) = v2 := Eq.symm r2
        refine W.step [(17, _)] (Sub.cons (e2 _ rfl) (Sub.refl _)) ?_
        refine W.fieldB (off := 1) (size := 1) (t := 51) (Fld.of (by kernel_rfl)) rfl rfl rfl ?_
        refine W.nil ?_
        exact At.step (Ext.refl _) rfl
      refine And.intro ?_ ?_
      · intro L_ w2 hX_ hs_ hf_ hd_
        obtain ⟨v3, e3, r3⟩ := hd_ 3 rfl
        obtain rfl : (.pointer (some ⟨g, 1, none⟩) : Value) = v3 := Eq.symm r3
        refine W.step [(18, _)] (Sub.cons (e3 _ rfl) (Sub.refl _)) ?_
        refine W.loadB rfl Try.underlying51 rfl ((h1.ext hX0).ext hX_) rfl rfl ?_
        refine W.nil ?_
        exact At.step (Ext.refl _) rfl
      refine And.intro ?_ ?_
      · intro L_ w2 hX_ hs_ hf_ hd_
        refine W.step [(0, _)] (Sub.cons (hs_ _ _ rfl) (Sub.refl _)) ?_
        refine W.move rfl rfl ?_
        refine W.nil ?_
        exact At.step (Ext.refl _) rfl
      refine And.intro ?_ ?_
      · intro L_ w2 hX_ hs_ hf_ hd_
        obtain ⟨v5, e5, r5⟩ := hd_ 5 rfl
        obtain rfl : (.pointer (some ⟨g, 0, none⟩) : Value) = v5 := Eq.symm r5
        refine W.step [(20, _)] (Sub.cons (e5 _ rfl) (Sub.refl _)) ?_
        refine W.nilCheck rfl rfl ?_
        refine W.nil ?_
        exact At.step (Ext.refl _) rfl
      refine And.intro ?_ ?_
      · intro L_ w2 hX_ hs_ hf_ hd_
        obtain ⟨v6, e6, r6⟩ := hd_ 6 rfl
        obtain rfl : (.pointer (some ⟨g, 0, none⟩) : Value) = v6 := Eq.symm r6
        refine W.step [(21, _)] (Sub.cons (e6 _ rfl) (Sub.refl _)) ?_
        refine W.fieldB (off := 2) (size := 1) (t := 3) (Fld.of (by kernel_rfl)) rfl rfl rfl ?_
        refine W.nil ?_
        exact At.step (Ext.refl _) rfl
      refine And.intro ?_ ?_
      · intro L_ w2 hX_ hs_ hf_ hd_
        obtain ⟨v7, e7, r7⟩ := hd_ 7 rfl
        obtain rfl : (.pointer (some ⟨g, 2, none⟩) : Value) = v7 := Eq.symm r7
        refine W.step [(22, _)] (Sub.cons (e7 _ rfl) (Sub.refl _)) ?_
        refine W.loadB rfl Try.underlying3 rfl ((h1.ext hX0).ext hX_) rfl rfl ?_
        refine W.nil ?_
        exact At.step (Ext.refl _) rfl
      refine And.intro ?_ ?_
      · intro L_ w2 hX_ hs_ hf_ hd_
        refine W.step [(1, _)] (Sub.cons (hs_ _ _ rfl) (Sub.refl _)) ?_
        refine W.move rfl rfl ?_
        refine W.nil ?_
        exact At.step (Ext.refl _) rfl
      refine And.intro ?_ ?_
      · intro L_ w2 hX_ hs_ hf_ hd_
        obtain ⟨v9, e9, r9⟩ := hd_ 9 rfl
        obtain rfl : (.int .i64 keep : Value) = v9 := Eq.symm r9
        refine W.step [(24, _)] (Sub.cons (e9 _ rfl) (Sub.refl _)) ?_
        refine W.maxI rfl rfl rfl ?_
        refine W.nil ?_
        exact At.step (Ext.refl _) rfl
      refine And.intro ?_ ?_
      · intro L_ w2 hX_ hs_ hf_ hd_
        refine W.step [(4, _)] (Sub.cons (hs_ _ _ rfl) (Sub.refl _)) ?_
        refine W.move rfl rfl ?_
        refine W.nil ?_
        exact At.step (Ext.refl _) rfl
      refine And.intro ?_ ?_
      · intro L_ w2 hX_ hs_ hf_ hd_
        obtain ⟨v10, e10, r10⟩ := hd_ 10 rfl
        obtain rfl : (.int .i64 (max 0 keep) : Value) = v10 := Eq.symm r10
        obtain ⟨v11, e11, r11⟩ := hd_ 11 rfl
        obtain rfl : (.int .i64 ((D.bs.length : Int) - (D.syn : Int)) : Value) = v11 := Eq.symm r11
        refine W.step [(25, _), (26, _)] (Sub.cons (e10 _ rfl) (Sub.cons (e11 _ rfl) (Sub.refl _))) ?_
        refine W.minI rfl rfl rfl ?_
        refine W.nil ?_
        exact At.step (Ext.refl _) rfl
      refine And.intro ?_ ?_
      · intro L_ w2 hX_ hs_ hf_ hd_
        obtain ⟨v8, e8, r8⟩ := hd_ 8 rfl
        obtain rfl : (.int .i64 (D.syn : Int) : Value) = v8 := Eq.symm r8
        obtain ⟨v12, e12, r12⟩ := hd_ 12 rfl
        obtain rfl : (.int .i64 (min (max 0 keep) ((D.bs.length : Int) - (D.syn : Int))) : Value) = v12 := Eq.symm r12
        refine W.step [(23, _), (27, _)] (Sub.cons (e8 _ rfl) (Sub.cons (e12 _ rfl) (Sub.refl _))) ?_
        first | refine W.addI rfl rfl (by omega) rfl ?_ | refine W.addW rfl rfl rfl ?_
        refine W.eqv (v' := .int .i64 (K : Int)) (iV (by rw [hK]; unfold keepN; omega)) ?_
        refine W.nil ?_
        exact At.step (Ext.refl _) rfl
      refine And.intro ?_ ?_
      · intro L_ w2 hX_ hs_ hf_ hd_
        obtain ⟨v4, e4, r4⟩ := hd_ 4 rfl
        obtain rfl : (.slice bo D.bs.length cb : Value) = v4 := Eq.symm r4
        obtain ⟨v13, e13, r13⟩ := hd_ 13 rfl
        obtain rfl : (.int .i64 (K : Int) : Value) = v13 := Eq.symm r13
        refine W.step [(19, _), (28, _)] (Sub.cons (e4 _ rfl) (Sub.cons (e13 _ rfl) (Sub.refl _))) ?_
        refine W.sliceO (k := K) (kk := .i64) E8 Try.underlying51 rfl (ownsRow_ext (ownsRow_ext h2 hX0) hX_) rfl hk2 rfl ?_
        intro bo29 ho29 hb29
        refine W.nil ?_
        exact At.step (Ext.refl _) ⟨bo29, rfl, ho29, hb29⟩
      refine And.intro ?_ ?_
      · intro L_ w2 hX_ hs_ hf_ hd_
        obtain ⟨v0, e0, r0⟩ := hd_ 0 rfl
        obtain rfl : (.pointer (some ⟨g, 0, none⟩) : Value) = v0 := Eq.symm r0
        refine W.step [(15, _)] (Sub.cons (e0 _ rfl) (Sub.refl _)) ?_
        refine W.nilCheck rfl rfl ?_
        refine W.nil ?_
        exact At.step (Ext.refl _) rfl
      refine And.intro ?_ ?_
      · intro L_ w2 hX_ hs_ hf_ hd_
        obtain ⟨v15, e15, r15⟩ := hd_ 15 rfl
        obtain rfl : (.pointer (some ⟨g, 0, none⟩) : Value) = v15 := Eq.symm r15
        refine W.step [(30, _)] (Sub.cons (e15 _ rfl) (Sub.refl _)) ?_
        refine W.fieldB (off := 1) (size := 1) (t := 51) (Fld.of (by kernel_rfl)) rfl rfl rfl ?_
        refine W.nil ?_
        exact At.step (Ext.refl _) rfl
      exact trivial
    · intro L_ w2 hX1 hs_ hv_
      obtain ⟨v16, e16, r16⟩ := hv_ 16 (by decide)
      obtain rfl : (.pointer (some ⟨g, 1, none⟩) : Value) = v16 := Eq.symm r16
      obtain ⟨v14, e14, r14⟩ := hv_ 14 (by decide)
      obtain ⟨bo', rfl, hoA, hbA⟩ := r14
      refine W.weaken (l' := [(31, _), (29, _), (0, _), (1, _), (4, _)]) (Sub.cons (e16 _ rfl) (Sub.cons (e14 _ rfl) (Sub.cons (hs_ _ _ rfl) (Sub.cons (hs_ _ _ rfl) (Sub.cons (hs_ _ _ rfl) (Sub.nil)))))) ?_
      have hX01 := hX0.ext hX1
      refine W.store1 rfl rfl rfl (h1.ext hX01) (by simp) (by kernel_rfl) ?_
      intro w3 hc3 hB3
      have hlk : (D.bs.take K).length = K := by rw [List.length_take]; omega
      refine W.nil ?_
      refine At.thenCode ?_
      refine C.region ?_
      refine W.move rfl rfl ?_
      refine W.move rfl rfl ?_
      refine W.nilCheck rfl rfl ?_
      refine W.fieldB (off := 1) (size := 1) (t := 51) (Fld.of (by kernel_rfl)) rfl rfl rfl ?_
      refine W.loadB rfl Try.underlying51 rfl (by assumption) rfl rfl ?_
      refine W.lenS rfl Try.underlying51 rfl ?_
      refine W.nilCheck rfl rfl ?_
      refine W.fieldB (off := 2) (size := 1) (t := 3) (Fld.of (by kernel_rfl)) rfl rfl rfl ?_
      refine W.store1 rfl rfl rfl hB3 (by simp) (by kernel_rfl) ?_
      intro w4 hc4 hB4
      have hB4 : Bk w4 g [.int .i64 rv, .slice bo' (D.bs.take K).length cb, .int .i64 (((D.bs.take K).length : Nat) : Int), .slice fo D.fails.length cf] := hB4
      refine W.nil ?_
      refine At.end0 Try.results26 ?_
      have hcz := hc3.trans hc4
      refine ⟨?_, (hX01.mono fun _ c => c.elim).trans (hcz.mono fun k hk => by rw [hk]; exact hD.own)⟩
      exact Dk.rebuild (D := ⟨D.room, D.bs.take K, K, D.fails⟩) hD.own hD.lt hX01.size (by rw [hlk] at hB4 ⊢; exact hB4) hoA (Sl.ext h3 hX01) hcz (fun ad e => by obtain ⟨a, ha, hb⟩ := hbA ad e; rw [hb]; exact ⟨.inl (h4 a ha).1, (h4 a ha).2⟩) (fun ad e hne => by
        have hq := h5 ad e hne
        exact ⟨.inl hq.1, hq.2.1, fun ad' e' => by obtain ⟨a, ha, hb⟩ := hbA ad' e'; rw [hb]; exact hq.2.2 a ha⟩) hok hD.room hD.rvb
end Go.Proofs.Ythiijdbiikljpaa.Disk
