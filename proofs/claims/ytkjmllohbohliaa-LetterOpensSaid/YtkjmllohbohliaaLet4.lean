/- The reference's letters of chapter 17, and two letters compared. -/
import Derived.Test.YtkjmllohbohliaaLet3
import Derived.Test.YtkjmllohbohliaaCodZ
namespace Go.Proofs.Ytkjmllohbohliaa.Let
open Go Go.RowKit Go.Proofs.Ytkjmllohbohliaa.KW Go.Proofs.Ytkjmllohbohliaa.Words Go.Proofs.Ytkjmllohbohliaa.Sha Go.Proofs.Ytkjmllohbohliaa.RSha Go.Proofs.Ytkjmllohbohliaa.Derive Go.Proofs.Ytkjmllohbohliaa.Seal Go.Proofs.Ytkjmllohbohliaa.Grp Go.Proofs.Ytkjmllohbohliaa.Cod
set_option linter.unusedVariables false
set_option linter.unusedSimpArgs false
set_option maxRecDepth 100000
theorem same_ok (k : List UInt8) (a1 : Option Addr) (c1 : Nat) (a2 : Option Addr) (c2 : Nat) (b : List UInt8) (w : World) (hk : k.length = 32) (h1 : Bs w a1 c1 b) (h2 : Bs w a2 c2 b) :
    Ct Try.prog 25 #[.agg (letC k (.slice a1 b.length c1)).toArray, .agg (letC k (.slice a2 b.length c2)).toArray] w (fun v w' => v = .bool true ∧ Ext w w') := by
  refine Ct.enter [(0, .agg (letC k (.slice a1 b.length c1)).toArray), (1, .agg (letC k (.slice a2 b.length c2)).toArray)] Try.func25 rfl rfl rfl rfl ?_
  have hkey : ∀ u, ((letC k u).drop 0).take 32 = k.map byteV := fun u => by unfold letC; rw [List.drop_zero, List.take_append_of_le_length (by simp [hk]), List.take_of_length_le (by simp [hk])]
  refine C.seq ?_
  refine C.region ?_
  refine W.box (letC k (.slice a1 b.length c1)) rfl rfl rfl ?_
  intro g2 w2 hg2 hX2 hB2
  refine W.box (letC k (.slice a2 b.length c2)) rfl rfl rfl ?_
  intro g3 w3 hg3 hX3 hB3
  have hB2a := hB2.ext hX3
  have hX := hX2.ext hX3
  refine W.assign rfl rfl ?_
  refine W.nil ?_
  refine At.thenCode ?_
  refine C.seq ?_
  refine C.region ?_
  refine W.fieldB (off := 0) (size := 32) (t := 23) (Fld.of (by kernel_rfl)) rfl rfl rfl ?_
  refine W.loadA (cs := k.map byteV) rfl (by have := Bk.cellsN (o := 0) (n := 32) hB2a; rwa [hkey] at this) Try.underlying23 rfl (by rw [List.length_map, hk]; kernel_rfl) rfl ?_
  refine W.fieldB (off := 0) (size := 32) (t := 23) (Fld.of (by kernel_rfl)) rfl rfl rfl ?_
  refine W.loadA (cs := k.map byteV) rfl (by have := Bk.cellsN (o := 0) (n := 32) hB3; rwa [hkey] at this) Try.underlying23 rfl (by rw [List.length_map, hk]; kernel_rfl) rfl ?_
  refine W.eqlKey (a := k) (b := k) Try.underlying23 Try.underlying5 (by kernel_rfl) rfl rfl hk hk (by kernel_rfl) rfl ?_
  refine W.eqv (bT (rfl)) ?_
  refine W.move rfl rfl ?_
  refine W.wants rfl rfl rfl rfl ?_
  refine W.fieldB (off := 32) (size := 1) (t := 24) (Fld.of (by kernel_rfl)) rfl rfl rfl ?_
  refine W.wants rfl rfl rfl rfl ?_
  refine W.loadB (v := .slice a1 b.length c1) rfl Try.underlying24 rfl hB2a (letC_get hk _) rfl ?_
  refine W.wants rfl rfl rfl rfl ?_
  refine W.bytesStr Try.underlying24 Try.underlying5 Try.underlying9 rfl (h1.ext hX) rfl ?_
  refine W.wants rfl rfl rfl rfl ?_
  refine W.fieldB (off := 32) (size := 1) (t := 24) (Fld.of (by kernel_rfl)) rfl rfl rfl ?_
  refine W.wants rfl rfl rfl rfl ?_
  refine W.loadB (v := .slice a2 b.length c2) rfl Try.underlying24 rfl hB3 (letC_get hk _) rfl ?_
  refine W.wants rfl rfl rfl rfl ?_
  refine W.bytesStr Try.underlying24 Try.underlying5 Try.underlying9 rfl (h2.ext hX) rfl ?_
  refine W.wants rfl rfl rfl rfl ?_
  refine W.eqlStr rfl rfl rfl ?_
  refine W.eqv (bT (rfl)) ?_
  refine W.pickT rfl rfl rfl ?_
  refine W.assign rfl rfl ?_
  refine W.nil ?_
  refine At.thenCode ?_
  refine C.ret ?_
  refine At.ret1 Try.results25 rfl ?_
  exact ⟨rfl, hX⟩
theorem talked_ok (z : Nat) (k : List UInt8) (n : Int) (m : Nat) (w : World) (hk : k.length = 32) (hm : iu 18446744073709551616 n = m) :
    Ct Try.prog 56 #[.int .u64 (z : Int), keyV k, .int .i64 n] w (fun v w' => v = keyV (keyD ((be64 z ++ k) ++ be64 m) noteS) ∧ Ext w w') := by
  refine Ct.enter [(0, .int .u64 (z : Int)), (1, keyV k), (2, .int .i64 n)] Try.func56 rfl rfl rfl rfl ?_
  obtain ⟨V, hV⟩ : ∃ V, V = keyD ((be64 z ++ k) ++ be64 m) noteS := ⟨_, rfl⟩
  have hkl : V.length = 32 := by rw [hV]; exact keyD_length _ _
  rw [← hV]
  refine C.seq ?_
  refine C.region ?_
  refine W.box (k.map byteV) rfl rfl rfl ?_
  intro g4 w4 hg4 hX4 hB4
  refine W.alloc (z := .agg (List.replicate 32 (byteV 0)).toArray) (List.replicate 32 (byteV 0)) (by kernel_rfl) rfl rfl ?_
  intro g6 w6 hg6 hX6 hB6
  have hB4a := hB4.ext hX6
  refine W.nil ?_
  refine At.thenCode ?_
  refine C.seq ?_
  refine C.regionAny 3 ((fun v w => v = .int .u64 (z : Int)) :: (fun v w => Ow w w6.heap.size 5 v (be64 z)) :: (fun v w => v = .slice (some ⟨g4, 0, none⟩) 32 32) :: []) [(0, .int .u64 (z : Int)), (2, .int .i64 n), (4, .pointer (some ⟨g4, 0, none⟩)), (6, .pointer (some ⟨g6, 0, none⟩))] [] (Sub.cons (rfl) (Sub.cons (rfl) (Sub.cons (rfl) (Sub.cons (rfl) (Sub.nil))))) (Sub.nil) (Sub.cons (rfl) (Sub.cons (rfl) (Sub.cons (rfl) (Sub.cons (rfl) (Sub.nil))))) (by kernel_rfl) rfl rfl rfl (And.intro (fun _ _ _ h _ => h) (And.intro (fun _ _ _ h g => by first | exact h | exact ownsRow_ext h g | exact Sl.ext h g) (And.intro (fun _ _ _ h _ => h) (trivial)))) ?_ ?_
  · refine And.intro ?_ ?_
    · intro L_ wr hX_ hs_ hf_ hd_
      refine W.step [(0, _)] (Sub.cons (hs_ _ _ rfl) (Sub.refl _)) ?_
      refine W.move rfl rfl ?_
      refine W.nil ?_
      exact At.step (Ext.refl _) rfl
    refine And.intro ?_ ?_
    · intro L_ wr hX_ hs_ hf_ hd_
      obtain ⟨v0, e0, r0⟩ := hd_ 0 rfl
      obtain rfl : (.int .u64 (z : Int) : Value) = v0 := Eq.symm r0
      refine W.step [(8, _)] (Sub.cons (e0 _ rfl) (Sub.refl _)) ?_
      refine W.call Try.call48 rfl (Grp.RBytes_ok _ _) rfl ?_
      rintro v9 w9 ⟨hO9, hX9⟩
      refine W.nil ?_
      exact At.step hX9 (ownsRow_base hO9 hX_.size)
    refine And.intro ?_ ?_
    · intro L_ wr hX_ hs_ hf_ hd_
      refine W.step [(4, _)] (Sub.cons (hs_ _ _ rfl) (Sub.refl _)) ?_
      refine W.sliceA X8 Try.underlying23 rfl rfl ?_
      refine W.nil ?_
      exact At.step (Ext.refl _) rfl
    exact trivial
  · intro L_ wr hX1 hs_ hv_
    obtain ⟨v1, e1, r1⟩ := hv_ 1 (by decide)
    obtain ⟨v2, e2, r2⟩ := hv_ 2 (by decide)
    obtain rfl : (.slice (some ⟨g4, 0, none⟩) 32 32 : Value) = v2 := Eq.symm r2
    refine W.weaken (l' := [(9, _), (10, _), (0, _), (2, _), (4, _), (6, _)]) (Sub.cons (e1 _ rfl) (Sub.cons (e2 _ rfl) (Sub.cons (hs_ _ _ rfl) (Sub.cons (hs_ _ _ rfl) (Sub.cons (hs_ _ _ rfl) (Sub.cons (hs_ _ _ rfl) (Sub.nil))))))) ?_
    have hXr := hX1
    have hs10 : Bs wr (some ⟨g4, 0, none⟩) 32 k := by
      have := Bk.bs (o := 0) (xs := k) (hB4a.ext hXr) (by rw [List.drop_zero, List.take_of_length_le (by simp)])
      rwa [hk] at this
    refine W.appendB (ys := k) E8 Try.underlying24 rfl (look_eq rfl (by rw [hk])) r1 hs10 (by rw [be64_length]; omega) hXr.size rfl ?_
    intro v11 w11 hO11 hg11 _
    have hX11 : Ext w6 w11 := hXr.news (Chg.of_grown hg11) (fun k hk => Or.inr (World.ownsRow.lt r1 k hk.symm).1)
    obtain ⟨a11, c11, rfl, hS11, _⟩ := ownsRow_form hO11
    refine W.assign rfl rfl ?_
    refine W.nil ?_
    refine At.thenCode ?_
    refine C.seq ?_
    refine C.region ?_
    refine W.move rfl rfl ?_
    refine W.move rfl rfl ?_
    refine W.convIU (M := 18446744073709551616) rfl Try.underlying3 Try.underlying32 rfl rfl rfl ?_
    rw [hm]
    refine W.call Try.call58 rfl (Words.RPut64_ok _ _ _ m _ hS11 (by rw [List.length_append, be64_length, hk]; decide)) rfl ?_
    rintro v15 w15 ⟨hO15, hX15⟩
    obtain ⟨a15, c15, rfl, hS15, _⟩ := ownsRow_form hO15
    refine W.call Try.call52 rfl (Derive.RKey_ok _ _ _ noteS _ hS15 (by simp only [List.length_append, be64_length, hk]; decide) (by decide)) rfl ?_
    rintro v16 w16 ⟨rfl, hX16⟩
    rw [← hV]
    have hXz := (hX11.ext hX15).ext hX16
    refine W.storeA (V.map byteV) rfl rfl (hB6.ext hXz) (by rw [List.length_map, hkl]; rfl) (by rw [List.length_map, hkl]; kernel_rfl) (bytes_oneCell _) ?_
    intro wz hcz hBz
    refine W.nil ?_
    refine At.thenCode ?_
    refine C.ret ?_
    -- RESULT IN A CELL
    refine At.retC Try.results56 rfl (hBz.cells (o := 0)) Try.underlying23 rfl (by rw [List.drop_zero, List.length_map, hkl]; kernel_rfl) ⟨rfl, ?_⟩
    exact ((hX4.ext hX6).ext hXz).news hcz (fun k hk => Or.inr (by have := hX4.size; omega))
end Go.Proofs.Ytkjmllohbohliaa.Let
