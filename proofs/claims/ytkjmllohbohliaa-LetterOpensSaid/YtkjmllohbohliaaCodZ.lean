/- The reference's functions that write: notes. -/
import Derived.Test.YtkjmllohbohliaaCodY
namespace Go.Proofs.Ytkjmllohbohliaa.Cod
open Go Go.RowKit Go.Proofs.Ytkjmllohbohliaa.KW Go.Proofs.Ytkjmllohbohliaa.Words Go.Proofs.Ytkjmllohbohliaa.Grp
set_option linter.unusedVariables false
set_option linter.unusedSimpArgs false
set_option maxRecDepth 100000
theorem Ow.rep {w : World} {base e : Nat} {v : Value} {xs : List UInt8} (h : Ow w base e v xs) : Rep w v xs := by
  obtain ⟨a, c, rfl, hs, _⟩ := ownsRow_form h
  exact ⟨a, c, rfl, hs⟩
theorem RNote_ok (n : NoteD) (w : World) (hn : NoteOk n) :
    Ct Try.prog 57 #[.agg (noteC n).toArray] w (fun v w' => ∃ ao' c', v = .slice ao' (noteB n).length c' ∧ NewB w w' ao' c' (noteB n) ∧ Ext w w') := by
  refine Ct.enter [(0, .agg (noteC n).toArray)] Try.func57 rfl rfl rfl rfl ?_
  refine C.seq ?_
  refine C.region ?_
  refine W.box (noteC n) rfl rfl rfl ?_
  intro g1 w1 hg1 hXb hB1
  refine W.assign rfl rfl ?_
  refine W.nil ?_
  refine At.thenCode ?_
  refine C.seq ?_
  refine C.regionAny 8 ((fun v w => v = .pointer (some ⟨g1, 0, none⟩)) :: (fun v w => v = .int .u64 (n.seq : Int)) :: (fun v w => Rep w v (be64 n.seq)) :: (fun v w => v = .pointer (some ⟨g1, 1, none⟩)) :: (fun v w => v = .int .u64 (n.ack : Int)) :: (fun v w => Ow w w1.heap.size 5 v (be64 n.seq ++ be64 n.ack)) :: (fun v w => v = .pointer (some ⟨g1, 2, none⟩)) :: (fun v w => v = .slice (some ⟨g1, 2, none⟩) 32 32) :: []) [(1, .pointer (some ⟨g1, 0, none⟩))] [] (Sub.cons (rfl) (Sub.nil)) (Sub.nil) (Sub.cons (rfl) (Sub.nil)) (by kernel_rfl) rfl rfl rfl (And.intro (fun _ _ _ h _ => h) (And.intro (fun _ _ _ h _ => h) (And.intro (fun _ _ _ h g => h.ext g) (And.intro (fun _ _ _ h _ => h) (And.intro (fun _ _ _ h _ => h) (And.intro (fun _ _ _ h g => by first | exact h | exact ownsRow_ext h g | exact Sl.ext h g) (And.intro (fun _ _ _ h _ => h) (And.intro (fun _ _ _ h _ => h) (trivial))))))))) ?_ ?_
  · refine And.intro ?_ ?_
    · intro L_ wr hX_ hs_ hf_ hd_
      refine W.step [(1, _)] (Sub.cons (hs_ _ _ rfl) (Sub.refl _)) ?_
      refine W.fieldB (off := 0) (size := 1) (t := 32) (Fld.of (by kernel_rfl)) rfl rfl rfl ?_
      refine W.nil ?_
      exact At.step (Ext.refl _) rfl
    refine And.intro ?_ ?_
    · intro L_ wr hX_ hs_ hf_ hd_
      obtain ⟨v0, e0, r0⟩ := hd_ 0 rfl
      obtain rfl : (.pointer (some ⟨g1, 0, none⟩) : Value) = v0 := Eq.symm r0
      refine W.step [(3, _)] (Sub.cons (e0 _ rfl) (Sub.refl _)) ?_
      refine W.loadB rfl Try.underlying32 rfl (by first | exact Bk.ext (by assumption) hX_ | exact GP.bkOld hX_ (by assumption) (by omega) (by omega) | exact Bk.chg (by assumption) hX_.1 (by omega) | exact Bk.chg (by assumption) hX_ (by rintro ⟨q_, h1_, h2_, h3_⟩; omega)) rfl rfl ?_
      refine W.nil ?_
      exact At.step (Ext.refl _) rfl
    refine And.intro ?_ ?_
    · intro L_ wr hX_ hs_ hf_ hd_
      obtain ⟨v1, e1, r1⟩ := hd_ 1 rfl
      obtain rfl : (.int .u64 (n.seq : Int) : Value) = v1 := Eq.symm r1
      refine W.step [(4, _)] (Sub.cons (e1 _ rfl) (Sub.refl _)) ?_
      refine W.call Try.call58 rfl (Words.RPut64_ok none 0 [] n.seq _ (Sl.none _ _) (by simp)) rfl ?_
      rintro v5 w5 ⟨hO5, hX5⟩
      rw [List.nil_append] at hO5
      refine W.nil ?_
      exact At.step hX5 (Ow.rep hO5)
    refine And.intro ?_ ?_
    · intro L_ wr hX_ hs_ hf_ hd_
      refine W.step [(1, _)] (Sub.cons (hs_ _ _ rfl) (Sub.refl _)) ?_
      refine W.fieldB (off := 1) (size := 1) (t := 32) (Fld.of (by kernel_rfl)) rfl rfl rfl ?_
      refine W.nil ?_
      exact At.step (Ext.refl _) rfl
    refine And.intro ?_ ?_
    · intro L_ wr hX_ hs_ hf_ hd_
      obtain ⟨v3, e3, r3⟩ := hd_ 3 rfl
      obtain rfl : (.pointer (some ⟨g1, 1, none⟩) : Value) = v3 := Eq.symm r3
      refine W.step [(6, _)] (Sub.cons (e3 _ rfl) (Sub.refl _)) ?_
      refine W.loadB rfl Try.underlying32 rfl (by first | exact Bk.ext (by assumption) hX_ | exact GP.bkOld hX_ (by assumption) (by omega) (by omega) | exact Bk.chg (by assumption) hX_.1 (by omega) | exact Bk.chg (by assumption) hX_ (by rintro ⟨q_, h1_, h2_, h3_⟩; omega)) rfl rfl ?_
      refine W.nil ?_
      exact At.step (Ext.refl _) rfl
    refine And.intro ?_ ?_
    · intro L_ wr hX_ hs_ hf_ hd_
      obtain ⟨v2, e2, r2⟩ := hd_ 2 rfl
      obtain ⟨a2, c2, rfl, hb2⟩ := r2
      obtain ⟨v4, e4, r4⟩ := hd_ 4 rfl
      obtain rfl : (.int .u64 (n.ack : Int) : Value) = v4 := Eq.symm r4
      refine W.step [(5, _), (7, _)] (Sub.cons (e2 _ rfl) (Sub.cons (e4 _ rfl) (Sub.refl _))) ?_
      refine W.call Try.call58 rfl (Words.RPut64_ok a2 c2 (be64 n.seq) n.ack _ hb2 (by rw [be64_length]; decide)) rfl ?_
      rintro v8 w8 ⟨hO8, hX8⟩
      refine W.nil ?_
      exact At.step hX8 (ownsRow_base hO8 (Chg.size hX_))
    refine And.intro ?_ ?_
    · intro L_ wr hX_ hs_ hf_ hd_
      refine W.step [(1, _)] (Sub.cons (hs_ _ _ rfl) (Sub.refl _)) ?_
      refine W.fieldB (off := 2) (size := 32) (t := 22) (Fld.of (by kernel_rfl)) rfl rfl rfl ?_
      refine W.nil ?_
      exact At.step (Ext.refl _) rfl
    refine And.intro ?_ ?_
    · intro L_ wr hX_ hs_ hf_ hd_
      obtain ⟨v6, e6, r6⟩ := hd_ 6 rfl
      obtain rfl : (.pointer (some ⟨g1, 2, none⟩) : Value) = v6 := Eq.symm r6
      refine W.step [(9, _)] (Sub.cons (e6 _ rfl) (Sub.refl _)) ?_
      refine W.sliceA X8 Try.underlying22 rfl rfl ?_
      refine W.nil ?_
      exact At.step (Ext.refl _) rfl
    exact trivial
  · intro L_ wr hX1 hs_ hv_
    obtain ⟨v5, e5, r5⟩ := hv_ 5 (by decide)
    obtain ⟨v7, e7, r7⟩ := hv_ 7 (by decide)
    obtain rfl : (.slice (some ⟨g1, 2, none⟩) 32 32 : Value) = v7 := Eq.symm r7
    refine W.weaken (l' := [(8, _), (10, _), (1, _)]) (Sub.cons (e5 _ rfl) (Sub.cons (e7 _ rfl) (Sub.cons (hs_ _ _ rfl) (Sub.nil)))) ?_
    have hXr1 := hX1
    have hs10 : Bs wr (some ⟨g1, 2, none⟩) 32 n.pay := by
      have := Bk.bs (o := 2) (xs := n.pay) (hB1.ext hXr1) (by show (n.pay.map byteV).take n.pay.length = _; rw [List.take_of_length_le (by simp)])
      rwa [hn.2.2] at this
    refine W.appendB (ys := n.pay) E8 Try.underlying24 rfl (look_eq rfl (by rw [hn.2.2])) r5 hs10 (by simp only [List.length_append, be64_length]; have := hn.2.2; omega) (Chg.size hXr1) rfl ?_
    intro v11 w11 hO11 hg11 _
    have hX11 : Ext w w11 := (hXb.ext hXr1).news (Chg.of_grown hg11) (fun k hk => Or.inr (by have := (World.ownsRow.lt r5 k hk.symm).1; have := hXb.size; omega))
    obtain ⟨aR, cR, rfl, hSR, hbR⟩ := ownsRow_form hO11
    refine W.assign rfl rfl ?_
    refine W.nil ?_
    refine At.thenCode ?_
    refine C.ret ?_
    refine At.ret1 Try.results57 rfl ?_
    exact ⟨aR, cR, rfl, ⟨hSR, fun ad ea _ => by have := hbR ad ea; have := hXb.size; omega⟩, hX11⟩
end Go.Proofs.Ytkjmllohbohliaa.Cod
