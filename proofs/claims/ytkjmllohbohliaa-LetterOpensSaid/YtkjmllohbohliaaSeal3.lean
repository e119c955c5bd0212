/- Package seal and the reference's functions of chapter 5: opening. -/
import Derived.Test.YtkjmllohbohliaaSeal2
namespace Go.Proofs.Ytkjmllohbohliaa.Seal
open Go Go.RowKit Go.Proofs.Ytkjmllohbohliaa.KW Go.Proofs.Ytkjmllohbohliaa.Words Go.Proofs.Ytkjmllohbohliaa.Sha Go.Proofs.Ytkjmllohbohliaa.RSha Go.Proofs.Ytkjmllohbohliaa.Mac
set_option linter.unusedVariables false
set_option linter.unusedSimpArgs false
set_option maxRecDepth 100000

/-- What opening b gives: the text and whether it is sound. -/
def OpenR (key beside b : List UInt8) (base : Nat) (v : Value) (w : World) : Prop :=
  ∃ ao c, v = .tuple #[.slice ao (openV key beside b).length c, .bool (decide (openOk key beside b))] ∧ Bs w ao c (openV key beside b) ∧ ∀ ad, ao = some ad → base ≤ ad.block
theorem OpenR.bad {key beside b : List UInt8} {base : Nat} {w : World} (h : ¬ openOk key beside b) : OpenR key beside b base (.tuple #[.slice none 0 0, .bool false]) w := by
  have e : openV key beside b = [] := by unfold openV; rw [if_neg h]
  refine ⟨none, 0, ?_, ?_, fun _ h => by cases h⟩
  · rw [e, decide_eq_false h]; rfl
  · rw [e]; exact ⟨Nat.le_refl _, rfl, fun _ => rfl, fun _ h => by cases h⟩
theorem OpenR.good {key beside b : List UInt8} {base : Nat} {w : World} {v : Value} (h : openOk key beside b) (ho : Ow w base 5 v (turnV key (b.take (b.length - 16)))) : OpenR key beside b base (.tuple #[v, .bool true]) w := by
  have e : openV key beside b = turnV key (b.take (b.length - 16)) := by unfold openV; rw [if_pos h]
  obtain ⟨ao, c, rfl, hS, hb⟩ := ownsRow_form ho
  refine ⟨ao, c, ?_, ?_, hb⟩
  · rw [e, decide_eq_true h]
  · rw [e]; exact hS
theorem Open_ok (key : List UInt8) (ao : Option Addr) (co : Nat) (beside : List UInt8) (bo : Option Addr) (cb : Nat) (b : List UInt8) (w : World) (hk : key.length = 32) (hS : Bs w ao co beside) (hT : Bs w bo cb b) (hl : beside.length ≤ 300000) (hl2 : b.length ≤ 300000) :
    Ct Try.prog 14 #[keyV key, .slice ao beside.length co, .slice bo b.length cb] w (fun v w' => OpenR key beside b w.heap.size v w' ∧ Ext w w') := by
  refine Ct.enter [(0, keyV key), (1, .slice ao beside.length co), (2, .slice bo b.length cb)] Try.func14 rfl rfl rfl rfl ?_
  refine C.seq ?_
  refine C.region ?_
  refine W.box (key.map byteV) rfl rfl rfl ?_
  intro g3 w3 hg3 hX3 hB3
  refine W.assign rfl rfl ?_
  refine W.assign rfl rfl ?_
  refine W.nil ?_
  refine At.thenCode ?_
  refine C.seq ?_
  refine C.region ?_
  refine W.move rfl rfl ?_
  refine W.lenS rfl Try.underlying24 rfl ?_
  first | refine W.subI rfl rfl (by omega) rfl ?_ | refine W.subW rfl rfl rfl ?_
  refine W.assign rfl rfl ?_
  refine W.nil ?_
  refine At.thenCode ?_
  refine C.seq ?_
  refine C.seq ?_
  by_cases hq : b.length < 16
  · refine C.regionAny 15 ((fun v w => v = .int .i64 ((b.length : Int) - 16)) :: (fun v w => v = .bool true) :: (fun v w => v = .bool true) :: (fun v w => v = undef) :: (fun v w => v = undef) :: (fun v w => v = undef) :: (fun v w => v = undef) :: (fun v w => v = undef) :: (fun v w => v = undef) :: (fun v w => v = undef) :: (fun v w => v = undef) :: (fun v w => v = undef) :: (fun v w => v = undef) :: (fun v w => v = undef) :: (fun v w => v = .bool true) :: []) [(1, .slice ao beside.length co), (2, .slice bo b.length cb), (3, .pointer (some ⟨g3, 0, none⟩)), (8, .int .i64 ((b.length : Int) - 16))] [] (Sub.cons (rfl) (Sub.cons (rfl) (Sub.cons (rfl) (Sub.cons (rfl) (Sub.nil))))) (Sub.nil) (Sub.cons (rfl) (Sub.cons (rfl) (Sub.cons (rfl) (Sub.cons (rfl) (Sub.nil))))) (by kernel_rfl) rfl rfl rfl (And.intro (fun _ _ _ h _ => h) (And.intro (fun _ _ _ h _ => h) (And.intro (fun _ _ _ h _ => h) (And.intro (fun _ _ _ h _ => h) (And.intro (fun _ _ _ h _ => h) (And.intro (fun _ _ _ h _ => h) (And.intro (fun _ _ _ h _ => h) (And.intro (fun _ _ _ h _ => h) (And.intro (fun _ _ _ h _ => h) (And.intro (fun _ _ _ h _ => h) (And.intro (fun _ _ _ h _ => h) (And.intro (fun _ _ _ h _ => h) (And.intro (fun _ _ _ h _ => h) (And.intro (fun _ _ _ h _ => h) (And.intro (fun _ _ _ h _ => h) (trivial)))))))))))))))) ?_ ?_
    · refine And.intro ?_ ?_
      · intro L_ w4 hX_ hs_ hf_ hd_
        refine W.step [(8, _)] (Sub.cons (hs_ _ _ rfl) (Sub.refl _)) ?_
        refine W.move rfl rfl ?_
        refine W.nil ?_
        exact At.step (Ext.refl _) rfl
      refine And.intro ?_ ?_
      · intro L_ w4 hX_ hs_ hf_ hd_
        obtain ⟨v0, e0, r0⟩ := hd_ 0 rfl
        obtain rfl : (.int .i64 ((b.length : Int) - 16) : Value) = v0 := Eq.symm r0
        refine W.step [(12, _)] (Sub.cons (e0 _ rfl) (Sub.refl _)) ?_
        refine W.lssI rfl rfl rfl ?_
        refine W.eqv (bT (by omega)) ?_
        refine W.nil ?_
        exact At.step (Ext.refl _) rfl
      refine And.intro ?_ ?_
      · intro L_ w4 hX_ hs_ hf_ hd_
        obtain ⟨v1, e1, r1⟩ := hd_ 1 rfl
        obtain rfl : (.bool true : Value) = v1 := Eq.symm r1
        refine W.step [(13, _)] (Sub.cons (e1 _ rfl) (Sub.refl _)) ?_
        refine W.move rfl rfl ?_
        refine W.nil ?_
        exact At.step (Ext.refl _) rfl
      refine And.intro ?_ ?_
      · intro L_ w4 hX_ hs_ hf_ hd_
        obtain ⟨v2, e2, r2⟩ := hd_ 2 rfl
        obtain rfl : (.bool true : Value) = v2 := Eq.symm r2
        refine W.step [(14, _)] (Sub.cons (e2 _ rfl) (Sub.refl _)) ?_
        refine W.skips rfl rfl rfl rfl rfl rfl ?_
        refine W.nil ?_
        exact At.step (Ext.refl _) rfl
      refine And.intro ?_ ?_
      · intro L_ w4 hX_ hs_ hf_ hd_
        obtain ⟨v2, e2, r2⟩ := hd_ 2 rfl
        obtain rfl : (.bool true : Value) = v2 := Eq.symm r2
        refine W.step [(14, _)] (Sub.cons (e2 _ rfl) (Sub.refl _)) ?_
        refine W.skips rfl rfl rfl rfl rfl rfl ?_
        refine W.nil ?_
        exact At.step (Ext.refl _) rfl
      refine And.intro ?_ ?_
      · intro L_ w4 hX_ hs_ hf_ hd_
        obtain ⟨v2, e2, r2⟩ := hd_ 2 rfl
        obtain rfl : (.bool true : Value) = v2 := Eq.symm r2
        refine W.step [(14, _)] (Sub.cons (e2 _ rfl) (Sub.refl _)) ?_
        refine W.skips rfl rfl rfl rfl rfl rfl ?_
        refine W.nil ?_
        exact At.step (Ext.refl _) rfl
      refine And.intro ?_ ?_
      · intro L_ w4 hX_ hs_ hf_ hd_
        obtain ⟨v2, e2, r2⟩ := hd_ 2 rfl
        obtain rfl : (.bool true : Value) = v2 := Eq.symm r2
        refine W.step [(14, _)] (Sub.cons (e2 _ rfl) (Sub.refl _)) ?_
        refine W.skips rfl rfl rfl rfl rfl rfl ?_
        refine W.nil ?_
        exact At.step (Ext.refl _) rfl
      refine And.intro ?_ ?_
      · intro L_ w4 hX_ hs_ hf_ hd_
        obtain ⟨v2, e2, r2⟩ := hd_ 2 rfl
        obtain rfl : (.bool true : Value) = v2 := Eq.symm r2
        refine W.step [(14, _)] (Sub.cons (e2 _ rfl) (Sub.refl _)) ?_
        refine W.skips rfl rfl rfl rfl rfl rfl ?_
        refine W.nil ?_
        exact At.step (Ext.refl _) rfl
      refine And.intro ?_ ?_
      · intro L_ w4 hX_ hs_ hf_ hd_
        obtain ⟨v2, e2, r2⟩ := hd_ 2 rfl
        obtain rfl : (.bool true : Value) = v2 := Eq.symm r2
        refine W.step [(14, _)] (Sub.cons (e2 _ rfl) (Sub.refl _)) ?_
        refine W.skips rfl rfl rfl rfl rfl rfl ?_
        refine W.nil ?_
        exact At.step (Ext.refl _) rfl
      refine And.intro ?_ ?_
      · intro L_ w4 hX_ hs_ hf_ hd_
        obtain ⟨v2, e2, r2⟩ := hd_ 2 rfl
        obtain rfl : (.bool true : Value) = v2 := Eq.symm r2
        refine W.step [(14, _)] (Sub.cons (e2 _ rfl) (Sub.refl _)) ?_
        refine W.skips rfl rfl rfl rfl rfl rfl ?_
        refine W.nil ?_
        exact At.step (Ext.refl _) rfl
      refine And.intro ?_ ?_
      · intro L_ w4 hX_ hs_ hf_ hd_
        obtain ⟨v2, e2, r2⟩ := hd_ 2 rfl
        obtain rfl : (.bool true : Value) = v2 := Eq.symm r2
        refine W.step [(14, _)] (Sub.cons (e2 _ rfl) (Sub.refl _)) ?_
        refine W.skips rfl rfl rfl rfl rfl rfl ?_
        refine W.nil ?_
        exact At.step (Ext.refl _) rfl
      refine And.intro ?_ ?_
      · intro L_ w4 hX_ hs_ hf_ hd_
        obtain ⟨v2, e2, r2⟩ := hd_ 2 rfl
        obtain rfl : (.bool true : Value) = v2 := Eq.symm r2
        refine W.step [(14, _)] (Sub.cons (e2 _ rfl) (Sub.refl _)) ?_
        refine W.skips rfl rfl rfl rfl rfl rfl ?_
        refine W.nil ?_
        exact At.step (Ext.refl _) rfl
      refine And.intro ?_ ?_
      · intro L_ w4 hX_ hs_ hf_ hd_
        obtain ⟨v2, e2, r2⟩ := hd_ 2 rfl
        obtain rfl : (.bool true : Value) = v2 := Eq.symm r2
        refine W.step [(14, _)] (Sub.cons (e2 _ rfl) (Sub.refl _)) ?_
        refine W.skips rfl rfl rfl rfl rfl rfl ?_
        refine W.nil ?_
        exact At.step (Ext.refl _) rfl
      refine And.intro ?_ ?_
      · intro L_ w4 hX_ hs_ hf_ hd_
        obtain ⟨v2, e2, r2⟩ := hd_ 2 rfl
        obtain rfl : (.bool true : Value) = v2 := Eq.symm r2
        refine W.step [(14, _)] (Sub.cons (e2 _ rfl) (Sub.refl _)) ?_
        refine W.skips rfl rfl rfl rfl rfl rfl ?_
        refine W.nil ?_
        exact At.step (Ext.refl _) rfl
      refine And.intro ?_ ?_
      · intro L_ w4 hX_ hs_ hf_ hd_
        obtain ⟨v2, e2, r2⟩ := hd_ 2 rfl
        obtain rfl : (.bool true : Value) = v2 := Eq.symm r2
        obtain ⟨v13, e13, r13⟩ := hd_ 13 rfl
        obtain rfl : (undef : Value) = v13 := Eq.symm r13
        refine W.step [(14, _), (25, _)] (Sub.cons (e2 _ rfl) (Sub.cons (e13 _ rfl) (Sub.refl _))) ?_
        refine W.pickT rfl rfl rfl ?_
        refine W.nil ?_
        exact At.step (Ext.refl _) rfl
      exact trivial
    · intro L_ w4 hX2 hs_ hv_
      obtain ⟨v14, e14, r14⟩ := hv_ 14 (by decide)
      obtain rfl : (.bool true : Value) = v14 := Eq.symm r14
      refine W.weaken (l' := [(26, _), (1, _), (2, _), (3, _), (8, _)]) (Sub.cons (e14 _ rfl) (Sub.cons (hs_ _ _ rfl) (Sub.cons (hs_ _ _ rfl) (Sub.cons (hs_ _ _ rfl) (Sub.cons (hs_ _ _ rfl) (Sub.nil)))))) ?_
      refine W.nil ?_
      refine At.thenCode ?_
      refine C.condT rfl ?_
      refine C.seq ?_
      refine C.region ?_
      refine W.assign rfl rfl ?_
      refine W.assign rfl rfl ?_
      refine W.nil ?_
      refine At.thenCode ?_
      refine C.ret ?_
      refine At.thenRet ?_
      refine At.ret2 Try.results14 rfl rfl ?_
      first
      | exact ⟨OpenR.bad (fun h => by have := h.1; omega), hX3.ext hX2⟩
      | exact ⟨OpenR.bad (fun h => by have := h.2; simp_all), hX3.ext hX2⟩
      | exact ⟨OpenR.good ⟨by omega, by simp_all⟩ (ownsRow_base r4 hX3.size), (hX3.ext hX2).ext hX4⟩
  · refine C.regionAny 15 ((fun v w => v = .int .i64 ((b.length : Int) - 16)) :: (fun v w => v = .bool false) :: (fun v w => v = .bool false) :: (fun v w => v = keyV key) :: (fun v w => v = .slice ao beside.length co) :: (fun v w => v = .slice bo b.length cb) :: (fun v w => v = .int .i64 ((b.length : Int) - 16)) :: (fun v w => ∃ ao c, v = .slice ao (b.take (b.length - 16)).length c ∧ Bs w ao c (b.take (b.length - 16))) :: (fun v w => ∃ ao c, v = .slice ao (tagV key beside (b.take (b.length - 16))).length c ∧ Bs w ao c (tagV key beside (b.take (b.length - 16)))) :: (fun v w => v = .slice bo b.length cb) :: (fun v w => v = .int .i64 ((b.length : Int) - 16)) :: (fun v w => ∃ ao c, v = .slice ao (b.drop (b.length - 16)).length c ∧ Bs w ao c (b.drop (b.length - 16))) :: (fun v w => v = .bool (decide (tagV key beside (b.take (b.length - 16)) = b.drop (b.length - 16)))) :: (fun v w => v = .bool (decide (¬ tagV key beside (b.take (b.length - 16)) = b.drop (b.length - 16)))) :: (fun v w => v = .bool (decide (¬ tagV key beside (b.take (b.length - 16)) = b.drop (b.length - 16)))) :: []) [(1, .slice ao beside.length co), (2, .slice bo b.length cb), (3, .pointer (some ⟨g3, 0, none⟩)), (8, .int .i64 ((b.length : Int) - 16))] [] (Sub.cons (rfl) (Sub.cons (rfl) (Sub.cons (rfl) (Sub.cons (rfl) (Sub.nil))))) (Sub.nil) (Sub.cons (rfl) (Sub.cons (rfl) (Sub.cons (rfl) (Sub.cons (rfl) (Sub.nil))))) (by kernel_rfl) rfl rfl rfl (And.intro (fun _ _ _ h _ => h) (And.intro (fun _ _ _ h _ => h) (And.intro (fun _ _ _ h _ => h) (And.intro (fun _ _ _ h _ => h) (And.intro (fun _ _ _ h _ => h) (And.intro (fun _ _ _ h _ => h) (And.intro (fun _ _ _ h _ => h) (And.intro (fun _ _ _ ⟨ao, c, hv, hS⟩ g => ⟨ao, c, hv, hS.ext g⟩) (And.intro (fun _ _ _ ⟨ao, c, hv, hS⟩ g => ⟨ao, c, hv, hS.ext g⟩) (And.intro (fun _ _ _ h _ => h) (And.intro (fun _ _ _ h _ => h) (And.intro (fun _ _ _ ⟨ao, c, hv, hS⟩ g => ⟨ao, c, hv, hS.ext g⟩) (And.intro (fun _ _ _ h _ => h) (And.intro (fun _ _ _ h _ => h) (And.intro (fun _ _ _ h _ => h) (trivial)))))))))))))))) ?_ ?_
    · refine And.intro ?_ ?_
      · intro L_ w4 hX_ hs_ hf_ hd_
        refine W.step [(8, _)] (Sub.cons (hs_ _ _ rfl) (Sub.refl _)) ?_
        refine W.move rfl rfl ?_
        refine W.nil ?_
        exact At.step (Ext.refl _) rfl
      refine And.intro ?_ ?_
      · intro L_ w4 hX_ hs_ hf_ hd_
        obtain ⟨v0, e0, r0⟩ := hd_ 0 rfl
        obtain rfl : (.int .i64 ((b.length : Int) - 16) : Value) = v0 := Eq.symm r0
        refine W.step [(12, _)] (Sub.cons (e0 _ rfl) (Sub.refl _)) ?_
        refine W.lssI rfl rfl rfl ?_
        refine W.eqv (bF (by omega)) ?_
        refine W.nil ?_
        exact At.step (Ext.refl _) rfl
      refine And.intro ?_ ?_
      · intro L_ w4 hX_ hs_ hf_ hd_
        obtain ⟨v1, e1, r1⟩ := hd_ 1 rfl
        obtain rfl : (.bool false : Value) = v1 := Eq.symm r1
        refine W.step [(13, _)] (Sub.cons (e1 _ rfl) (Sub.refl _)) ?_
        refine W.move rfl rfl ?_
        refine W.nil ?_
        exact At.step (Ext.refl _) rfl
      refine And.intro ?_ ?_
      · intro L_ w4 hX_ hs_ hf_ hd_
        obtain ⟨v2, e2, r2⟩ := hd_ 2 rfl
        obtain rfl : (.bool false : Value) = v2 := Eq.symm r2
        refine W.step [(3, _), (14, _)] (Sub.cons (hs_ _ _ rfl) (Sub.cons (e2 _ rfl) (Sub.refl _))) ?_
        refine W.wants rfl rfl rfl rfl ?_
        refine W.loadA rfl ((hB3.ext hX_).cells (o := 0)) Try.underlying23 rfl (by rw [List.drop_zero, List.length_map, hk]; kernel_rfl) rfl ?_
        refine W.nil ?_
        exact At.step (Ext.refl _) rfl
      refine And.intro ?_ ?_
      · intro L_ w4 hX_ hs_ hf_ hd_
        obtain ⟨v2, e2, r2⟩ := hd_ 2 rfl
        obtain rfl : (.bool false : Value) = v2 := Eq.symm r2
        refine W.step [(1, _), (14, _)] (Sub.cons (hs_ _ _ rfl) (Sub.cons (e2 _ rfl) (Sub.refl _))) ?_
        refine W.wants rfl rfl rfl rfl ?_
        refine W.move rfl rfl ?_
        refine W.nil ?_
        exact At.step (Ext.refl _) rfl
      refine And.intro ?_ ?_
      · intro L_ w4 hX_ hs_ hf_ hd_
        obtain ⟨v2, e2, r2⟩ := hd_ 2 rfl
        obtain rfl : (.bool false : Value) = v2 := Eq.symm r2
        refine W.step [(2, _), (14, _)] (Sub.cons (hs_ _ _ rfl) (Sub.cons (e2 _ rfl) (Sub.refl _))) ?_
        refine W.wants rfl rfl rfl rfl ?_
        refine W.move rfl rfl ?_
        refine W.nil ?_
        exact At.step (Ext.refl _) rfl
      refine And.intro ?_ ?_
      · intro L_ w4 hX_ hs_ hf_ hd_
        obtain ⟨v2, e2, r2⟩ := hd_ 2 rfl
        obtain rfl : (.bool false : Value) = v2 := Eq.symm r2
        refine W.step [(8, _), (14, _)] (Sub.cons (hs_ _ _ rfl) (Sub.cons (e2 _ rfl) (Sub.refl _))) ?_
        refine W.wants rfl rfl rfl rfl ?_
        refine W.move rfl rfl ?_
        refine W.nil ?_
        exact At.step (Ext.refl _) rfl
      refine And.intro ?_ ?_
      · intro L_ w4 hX_ hs_ hf_ hd_
        obtain ⟨v5, e5, r5⟩ := hd_ 5 rfl
        obtain rfl : (.slice bo b.length cb : Value) = v5 := Eq.symm r5
        obtain ⟨v6, e6, r6⟩ := hd_ 6 rfl
        obtain rfl : (.int .i64 ((b.length : Int) - 16) : Value) = v6 := Eq.symm r6
        obtain ⟨v2, e2, r2⟩ := hd_ 2 rfl
        obtain rfl : (.bool false : Value) = v2 := Eq.symm r2
        refine W.step [(17, _), (18, _), (14, _)] (Sub.cons (e5 _ rfl) (Sub.cons (e6 _ rfl) (Sub.cons (e2 _ rfl) (Sub.refl _)))) ?_
        refine W.wants rfl rfl rfl rfl ?_
        refine W.slice (lo := 0) (hi := b.length - 16) E8 Try.underlying24 rfl ((hT.ext hX3).ext hX_) (.inl ⟨rfl, rfl⟩) (.inr ⟨_, .i64, rfl, look_eq rfl (by rw [show (b.length : Int) - 16 = ((b.length - 16 : Nat) : Int) by omega])⟩) (by omega) (by omega) rfl ?_
        intro ao19 c19 hS19 _
        have hS19 : Bs w4 ao19 c19 (b.take (b.length - 16)) := by
          rw [Nat.zero_mul, List.drop_zero, Nat.mul_one, Nat.sub_zero, ← List.map_take] at hS19
          show Sl _ _ _ _ _ _
          rw [List.length_take, Nat.min_eq_left (Nat.sub_le _ _)]
          exact hS19
        refine W.nil ?_
        exact At.step (Ext.refl _) ⟨ao19, c19, by rw [List.length_take, Nat.min_eq_left (Nat.sub_le _ _)]; rfl, hS19⟩
      refine And.intro ?_ ?_
      · intro L_ w4 hX_ hs_ hf_ hd_
        obtain ⟨v3, e3, r3⟩ := hd_ 3 rfl
        obtain rfl : (keyV key : Value) = v3 := Eq.symm r3
        obtain ⟨v4, e4, r4⟩ := hd_ 4 rfl
        obtain rfl : (.slice ao beside.length co : Value) = v4 := Eq.symm r4
        obtain ⟨v7, e7, r7⟩ := hd_ 7 rfl
        obtain ⟨ao7, c7, rfl, hS7⟩ := r7
        obtain ⟨v2, e2, r2⟩ := hd_ 2 rfl
        obtain rfl : (.bool false : Value) = v2 := Eq.symm r2
        refine W.step [(15, _), (16, _), (19, _), (14, _)] (Sub.cons (e3 _ rfl) (Sub.cons (e4 _ rfl) (Sub.cons (e7 _ rfl) (Sub.cons (e2 _ rfl) (Sub.refl _))))) ?_
        refine W.wants rfl rfl rfl rfl ?_
        refine W.call Try.call32 rfl (Seal.tagged_ok key _ _ beside _ _ _ _ hk ((hS.ext hX3).ext hX_) hS7 (by omega) (by rw [List.length_take]; omega)) rfl ?_
        rintro v20 w20 ⟨⟨q20, k20, rfl, hS20, _⟩, hX20⟩
        refine W.nil ?_
        exact At.step hX20 ⟨_, _, rfl, hS20⟩
      refine And.intro ?_ ?_
      · intro L_ w4 hX_ hs_ hf_ hd_
        obtain ⟨v2, e2, r2⟩ := hd_ 2 rfl
        obtain rfl : (.bool false : Value) = v2 := Eq.symm r2
        refine W.step [(2, _), (14, _)] (Sub.cons (hs_ _ _ rfl) (Sub.cons (e2 _ rfl) (Sub.refl _))) ?_
        refine W.wants rfl rfl rfl rfl ?_
        refine W.move rfl rfl ?_
        refine W.nil ?_
        exact At.step (Ext.refl _) rfl
      refine And.intro ?_ ?_
      · intro L_ w4 hX_ hs_ hf_ hd_
        obtain ⟨v2, e2, r2⟩ := hd_ 2 rfl
        obtain rfl : (.bool false : Value) = v2 := Eq.symm r2
        refine W.step [(8, _), (14, _)] (Sub.cons (hs_ _ _ rfl) (Sub.cons (e2 _ rfl) (Sub.refl _))) ?_
        refine W.wants rfl rfl rfl rfl ?_
        refine W.move rfl rfl ?_
        refine W.nil ?_
        exact At.step (Ext.refl _) rfl
      refine And.intro ?_ ?_
      · intro L_ w4 hX_ hs_ hf_ hd_
        obtain ⟨v9, e9, r9⟩ := hd_ 9 rfl
        obtain rfl : (.slice bo b.length cb : Value) = v9 := Eq.symm r9
        obtain ⟨v10, e10, r10⟩ := hd_ 10 rfl
        obtain rfl : (.int .i64 ((b.length : Int) - 16) : Value) = v10 := Eq.symm r10
        obtain ⟨v2, e2, r2⟩ := hd_ 2 rfl
        obtain rfl : (.bool false : Value) = v2 := Eq.symm r2
        refine W.step [(21, _), (22, _), (14, _)] (Sub.cons (e9 _ rfl) (Sub.cons (e10 _ rfl) (Sub.cons (e2 _ rfl) (Sub.refl _)))) ?_
        refine W.wants rfl rfl rfl rfl ?_
        refine W.slice (lo := b.length - 16) (hi := b.length) E8 Try.underlying24 rfl ((hT.ext hX3).ext hX_) (.inr ⟨_, .i64, rfl, look_eq rfl (by rw [show (b.length : Int) - 16 = ((b.length - 16 : Nat) : Int) by omega])⟩) (.inl ⟨rfl, rfl⟩) (by omega) (by omega) rfl ?_
        intro ao23 c23 hS23 _
        have hS23 : Bs w4 ao23 c23 (b.drop (b.length - 16)) := by
          rw [Nat.mul_one, Nat.mul_one, ← List.map_drop, List.take_of_length_le (by rw [List.length_map, List.length_drop]; exact Nat.le_refl _)] at hS23
          show Sl _ _ _ _ _ _
          rw [List.length_drop]
          exact hS23
        refine W.nil ?_
        exact At.step (Ext.refl _) ⟨ao23, c23, by rw [List.length_drop], hS23⟩
      refine And.intro ?_ ?_
      · intro L_ w4 hX_ hs_ hf_ hd_
        obtain ⟨v8, e8, r8⟩ := hd_ 8 rfl
        obtain ⟨ao8, c8, rfl, hS8⟩ := r8
        obtain ⟨v11, e11, r11⟩ := hd_ 11 rfl
        obtain ⟨ao11, c11, rfl, hS11⟩ := r11
        obtain ⟨v2, e2, r2⟩ := hd_ 2 rfl
        obtain rfl : (.bool false : Value) = v2 := Eq.symm r2
        refine W.step [(20, _), (23, _), (14, _)] (Sub.cons (e8 _ rfl) (Sub.cons (e11 _ rfl) (Sub.cons (e2 _ rfl) (Sub.refl _)))) ?_
        refine W.wants rfl rfl rfl rfl ?_
        refine W.call Try.call33 rfl (Seal.Equal_ok _ _ _ _ _ _ _ (by assumption) (by assumption)) rfl ?_
        rintro v24 w24 ⟨rfl, rfl⟩
        refine W.nil ?_
        exact At.step (Ext.refl _) rfl
      refine And.intro ?_ ?_
      · intro L_ w4 hX_ hs_ hf_ hd_
        obtain ⟨v12, e12, r12⟩ := hd_ 12 rfl
        obtain rfl : (.bool (decide (tagV key beside (b.take (b.length - 16)) = b.drop (b.length - 16))) : Value) = v12 := Eq.symm r12
        obtain ⟨v2, e2, r2⟩ := hd_ 2 rfl
        obtain rfl : (.bool false : Value) = v2 := Eq.symm r2
        refine W.step [(24, _), (14, _)] (Sub.cons (e12 _ rfl) (Sub.cons (e2 _ rfl) (Sub.refl _))) ?_
        refine W.wants rfl rfl rfl rfl ?_
        first | refine W.notD rfl rfl ?_ | refine W.notB rfl rfl ?_
        refine W.nil ?_
        exact At.step (Ext.refl _) rfl
      refine And.intro ?_ ?_
      · intro L_ w4 hX_ hs_ hf_ hd_
        obtain ⟨v2, e2, r2⟩ := hd_ 2 rfl
        obtain rfl : (.bool false : Value) = v2 := Eq.symm r2
        obtain ⟨v13, e13, r13⟩ := hd_ 13 rfl
        obtain rfl : (.bool (decide (¬ tagV key beside (b.take (b.length - 16)) = b.drop (b.length - 16))) : Value) = v13 := Eq.symm r13
        refine W.step [(14, _), (25, _)] (Sub.cons (e2 _ rfl) (Sub.cons (e13 _ rfl) (Sub.refl _))) ?_
        refine W.pickF rfl rfl rfl ?_
        refine W.nil ?_
        exact At.step (Ext.refl _) rfl
      exact trivial
    · intro L_ w4 hX2 hs_ hv_
      obtain ⟨v14, e14, r14⟩ := hv_ 14 (by decide)
      obtain rfl : (.bool (decide (¬ tagV key beside (b.take (b.length - 16)) = b.drop (b.length - 16))) : Value) = v14 := Eq.symm r14
      refine W.weaken (l' := [(26, _), (1, _), (2, _), (3, _), (8, _)]) (Sub.cons (e14 _ rfl) (Sub.cons (hs_ _ _ rfl) (Sub.cons (hs_ _ _ rfl) (Sub.cons (hs_ _ _ rfl) (Sub.cons (hs_ _ _ rfl) (Sub.nil)))))) ?_
      refine W.nil ?_
      refine At.thenCode ?_
      first | refine C.condD rfl (fun c26 => ?_) (fun c26 => ?_) | refine C.cond rfl (fun c26 => ?_) (fun c26 => ?_)
      · refine C.seq ?_
        refine C.region ?_
        refine W.assign rfl rfl ?_
        refine W.assign rfl rfl ?_
        refine W.nil ?_
        refine At.thenCode ?_
        refine C.ret ?_
        refine At.thenRet ?_
        refine At.ret2 Try.results14 rfl rfl ?_
        first
        | exact ⟨OpenR.bad (fun h => by have := h.1; omega), hX3.ext hX2⟩
        | exact ⟨OpenR.bad (fun h => by have := h.2; simp_all), hX3.ext hX2⟩
        | exact ⟨OpenR.good ⟨by omega, by simp_all⟩ (ownsRow_base r4 hX3.size), (hX3.ext hX2).ext hX4⟩
      · refine C.skip ?_
        refine At.thenCode ?_
        refine C.seq ?_
        refine C.regionAny 5 ((fun v w => v = keyV key) :: (fun v w => v = .slice bo b.length cb) :: (fun v w => v = .int .i64 ((b.length : Int) - 16)) :: (fun v w => ∃ ao c, v = .slice ao (b.take (b.length - 16)).length c ∧ Bs w ao c (b.take (b.length - 16))) :: (fun v w => Ow w w3.heap.size 5 v (turnV key (b.take (b.length - 16)))) :: []) [(2, .slice bo b.length cb), (3, .pointer (some ⟨g3, 0, none⟩)), (8, .int .i64 ((b.length : Int) - 16))] [] (Sub.cons (rfl) (Sub.cons (rfl) (Sub.cons (rfl) (Sub.nil)))) (Sub.nil) (Sub.cons (rfl) (Sub.cons (rfl) (Sub.cons (rfl) (Sub.nil)))) (by kernel_rfl) rfl rfl rfl (And.intro (fun _ _ _ h _ => h) (And.intro (fun _ _ _ h _ => h) (And.intro (fun _ _ _ h _ => h) (And.intro (fun _ _ _ ⟨ao, c, hv, hS⟩ g => ⟨ao, c, hv, hS.ext g⟩) (And.intro (fun _ _ _ h g => by first | exact h | exact ownsRow_ext h g | exact Sl.ext h g) (trivial)))))) ?_ ?_
        · refine And.intro ?_ ?_
          · intro L_ w6 hX_ hs_ hf_ hd_
            refine W.step [(3, _)] (Sub.cons (hs_ _ _ rfl) (Sub.refl _)) ?_
            refine W.loadA rfl ((((hB3.ext hX2)).ext hX_).cells (o := 0)) Try.underlying23 rfl (by rw [List.drop_zero, List.length_map, hk]; kernel_rfl) rfl ?_
            refine W.nil ?_
            exact At.step (Ext.refl _) rfl
          refine And.intro ?_ ?_
          · intro L_ w6 hX_ hs_ hf_ hd_
            refine W.step [(2, _)] (Sub.cons (hs_ _ _ rfl) (Sub.refl _)) ?_
            refine W.move rfl rfl ?_
            refine W.nil ?_
            exact At.step (Ext.refl _) rfl
          refine And.intro ?_ ?_
          · intro L_ w6 hX_ hs_ hf_ hd_
            refine W.step [(8, _)] (Sub.cons (hs_ _ _ rfl) (Sub.refl _)) ?_
            refine W.move rfl rfl ?_
            refine W.nil ?_
            exact At.step (Ext.refl _) rfl
          refine And.intro ?_ ?_
          · intro L_ w6 hX_ hs_ hf_ hd_
            obtain ⟨v1, e1, r1⟩ := hd_ 1 rfl
            obtain rfl : (.slice bo b.length cb : Value) = v1 := Eq.symm r1
            obtain ⟨v2, e2, r2⟩ := hd_ 2 rfl
            obtain rfl : (.int .i64 ((b.length : Int) - 16) : Value) = v2 := Eq.symm r2
            refine W.step [(28, _), (29, _)] (Sub.cons (e1 _ rfl) (Sub.cons (e2 _ rfl) (Sub.refl _))) ?_
            refine W.slice (lo := 0) (hi := b.length - 16) E8 Try.underlying24 rfl (((hT.ext hX3).ext hX2).ext hX_) (.inl ⟨rfl, rfl⟩) (.inr ⟨_, .i64, rfl, look_eq rfl (by rw [show (b.length : Int) - 16 = ((b.length - 16 : Nat) : Int) by omega])⟩) (by omega) (by omega) rfl ?_
            intro ao30 c30 hS30 _
            have hS30 : Bs w6 ao30 c30 (b.take (b.length - 16)) := by
              rw [Nat.zero_mul, List.drop_zero, Nat.mul_one, Nat.sub_zero, ← List.map_take] at hS30
              show Sl _ _ _ _ _ _
              rw [List.length_take, Nat.min_eq_left (Nat.sub_le _ _)]
              exact hS30
            refine W.nil ?_
            exact At.step (Ext.refl _) ⟨ao30, c30, by rw [List.length_take, Nat.min_eq_left (Nat.sub_le _ _)]; rfl, hS30⟩
          refine And.intro ?_ ?_
          · intro L_ w6 hX_ hs_ hf_ hd_
            obtain ⟨v0, e0, r0⟩ := hd_ 0 rfl
            obtain rfl : (keyV key : Value) = v0 := Eq.symm r0
            obtain ⟨v3, e3, r3⟩ := hd_ 3 rfl
            obtain ⟨ao3, c3, rfl, hS3⟩ := r3
            refine W.step [(27, _), (30, _)] (Sub.cons (e0 _ rfl) (Sub.cons (e3 _ rfl) (Sub.refl _))) ?_
            refine W.call Try.call31 rfl (Seal.turned_ok key _ _ (b.take (b.length - 16)) _ hk hS3 (by rw [List.length_take]; omega)) rfl ?_
            rintro v31 w31 ⟨ho31, hX31⟩
            refine W.nil ?_
            exact At.step hX31 (ownsRow_base ho31 (by have := hX2.size; have := hX_.size; omega))
          exact trivial
        · intro L_ w6 hX4 hs_ hv_
          obtain ⟨v4, e4, r4⟩ := hv_ 4 (by decide)
          refine W.weaken (l' := [(31, _), (2, _), (3, _), (8, _)]) (Sub.cons (e4 _ rfl) (Sub.cons (hs_ _ _ rfl) (Sub.cons (hs_ _ _ rfl) (Sub.cons (hs_ _ _ rfl) (Sub.nil))))) ?_
          refine W.assign rfl rfl ?_
          refine W.assign rfl rfl ?_
          refine W.nil ?_
          refine At.thenCode ?_
          refine C.ret ?_
          refine At.ret2 Try.results14 rfl rfl ?_
          first
          | exact ⟨OpenR.bad (fun h => by have := h.1; omega), hX3.ext hX2⟩
          | exact ⟨OpenR.bad (fun h => by have := h.2; simp_all), hX3.ext hX2⟩
          | exact ⟨OpenR.good ⟨by omega, by simp_all⟩ (ownsRow_base r4 hX3.size), (hX3.ext hX2).ext hX4⟩
theorem ROpen_ok (key : List UInt8) (ao : Option Addr) (co : Nat) (beside : List UInt8) (bo : Option Addr) (cb : Nat) (b : List UInt8) (w : World) (hk : key.length = 32) (hS : Bs w ao co beside) (hT : Bs w bo cb b) (hl : beside.length ≤ 300000) (hl2 : b.length ≤ 300000) :
    Ct Try.prog 16 #[keyV key, .slice ao beside.length co, .slice bo b.length cb] w (fun v w' => OpenR key beside b w.heap.size v w' ∧ Ext w w') := by
  refine Ct.enter [(0, keyV key), (1, .slice ao beside.length co), (2, .slice bo b.length cb)] Try.func16 rfl rfl rfl rfl ?_
  refine C.seq ?_
  refine C.region ?_
  refine W.box (key.map byteV) rfl rfl rfl ?_
  intro g3 w3 hg3 hX3 hB3
  refine W.assign rfl rfl ?_
  refine W.assign rfl rfl ?_
  refine W.nil ?_
  refine At.thenCode ?_
  refine C.seq ?_
  refine C.seq ?_
  refine C.region ?_
  refine W.move rfl rfl ?_
  refine W.lenS rfl Try.underlying24 rfl ?_
  refine W.lssI rfl rfl rfl ?_
  refine W.nil ?_
  refine At.thenCode ?_
  first | refine C.condD rfl (fun c11 => ?_) (fun c11 => ?_) | refine C.cond rfl (fun c11 => ?_) (fun c11 => ?_)
  · refine C.seq ?_
    refine C.region ?_
    refine W.assign rfl rfl ?_
    refine W.assign rfl rfl ?_
    refine W.nil ?_
    refine At.thenCode ?_
    refine C.ret ?_
    refine At.thenRet ?_
    refine At.ret2 Try.results16 rfl rfl ?_
    first
    | exact ⟨OpenR.bad (fun h => by have := h.1; omega), hX3⟩
    | exact ⟨OpenR.bad (fun h => by have := h.2; simp_all), hX3.ext hX4⟩
    | exact ⟨OpenR.good ⟨by omega, by simp_all⟩ (ownsRow_base ho31 hs34), (hX3.ext hX4).ext hX31⟩
  · refine C.skip ?_
    refine At.thenCode ?_
    refine C.seq ?_
    refine C.region ?_
    refine W.move rfl rfl ?_
    refine W.move rfl rfl ?_
    refine W.lenS rfl Try.underlying24 rfl ?_
    first | refine W.subI rfl rfl (by omega) rfl ?_ | refine W.subW rfl rfl rfl ?_
    refine W.slice (lo := 0) (hi := b.length - 16) E8 Try.underlying24 rfl (hT.ext hX3) (.inl ⟨rfl, rfl⟩) (.inr ⟨_, .i64, rfl, look_eq rfl (by rw [show (b.length : Int) - 16 = ((b.length - 16 : Nat) : Int) by omega])⟩) (by omega) (by omega) rfl ?_
    intro ao16 c16 hS16 _
    have hl16 : (b.take (b.length - 16)).length = b.length - 16 := by rw [List.length_take, Nat.min_eq_left (Nat.sub_le _ _)]
    have hS16 : Bs w3 ao16 c16 (b.take (b.length - 16)) := by
      rw [Nat.zero_mul, List.drop_zero, Nat.mul_one, Nat.sub_zero, ← List.map_take] at hS16
      show Sl _ _ _ _ _ _
      rw [hl16]
      exact hS16
    refine W.eqv (v' := .slice ao16 (b.take (b.length - 16)).length c16) (by rw [hl16, Nat.sub_zero]) ?_
    refine W.assign rfl rfl ?_
    refine W.nil ?_
    refine At.thenCode ?_
    refine C.seq ?_
    refine C.seq ?_
    refine C.regionAny 12 ((fun v w => v = keyV key) :: (fun v w => v = .slice ao beside.length co) :: (fun v w => v = .slice ao16 (b.take (b.length - 16)).length c16) :: (fun v w => ∃ ao c, v = .slice ao (tagV key beside (b.take (b.length - 16))).length c ∧ Bs w ao c (tagV key beside (b.take (b.length - 16)))) :: (fun v w => v = strV (tagV key beside (b.take (b.length - 16)))) :: (fun v w => v = .slice bo b.length cb) :: (fun v w => v = .slice bo b.length cb) :: (fun v w => v = .int .i64 (b.length : Int)) :: (fun v w => v = .int .i64 ((b.length : Int) - 16)) :: (fun v w => ∃ ao c, v = .slice ao (b.drop (b.length - 16)).length c ∧ Bs w ao c (b.drop (b.length - 16))) :: (fun v w => v = strV (b.drop (b.length - 16))) :: (fun v w => v = .bool (decide (¬ tagV key beside (b.take (b.length - 16)) = b.drop (b.length - 16)))) :: []) [(1, .slice ao beside.length co), (2, .slice bo b.length cb), (3, .pointer (some ⟨g3, 0, none⟩)), (8, .slice ao16 (b.take (b.length - 16)).length c16)] [] (Sub.cons (rfl) (Sub.cons (rfl) (Sub.cons (rfl) (Sub.cons (rfl) (Sub.nil))))) (Sub.nil) (Sub.cons (rfl) (Sub.cons (rfl) (Sub.cons (rfl) (Sub.cons (rfl) (Sub.nil))))) (by kernel_rfl) rfl rfl rfl (And.intro (fun _ _ _ h _ => h) (And.intro (fun _ _ _ h _ => h) (And.intro (fun _ _ _ h _ => h) (And.intro (fun _ _ _ ⟨ao, c, hv, hS⟩ g => ⟨ao, c, hv, hS.ext g⟩) (And.intro (fun _ _ _ h _ => h) (And.intro (fun _ _ _ h _ => h) (And.intro (fun _ _ _ h _ => h) (And.intro (fun _ _ _ h _ => h) (And.intro (fun _ _ _ h _ => h) (And.intro (fun _ _ _ ⟨ao, c, hv, hS⟩ g => ⟨ao, c, hv, hS.ext g⟩) (And.intro (fun _ _ _ h _ => h) (And.intro (fun _ _ _ h _ => h) (trivial))))))))))))) ?_ ?_
    · refine And.intro ?_ ?_
      · intro L_ w4 hX_ hs_ hf_ hd_
        refine W.step [(3, _)] (Sub.cons (hs_ _ _ rfl) (Sub.refl _)) ?_
        refine W.loadA rfl ((hB3.ext hX_).cells (o := 0)) Try.underlying23 rfl (by rw [List.drop_zero, List.length_map, hk]; kernel_rfl) rfl ?_
        refine W.nil ?_
        exact At.step (Ext.refl _) rfl
      refine And.intro ?_ ?_
      · intro L_ w4 hX_ hs_ hf_ hd_
        refine W.step [(1, _)] (Sub.cons (hs_ _ _ rfl) (Sub.refl _)) ?_
        refine W.move rfl rfl ?_
        refine W.nil ?_
        exact At.step (Ext.refl _) rfl
      refine And.intro ?_ ?_
      · intro L_ w4 hX_ hs_ hf_ hd_
        refine W.step [(8, _)] (Sub.cons (hs_ _ _ rfl) (Sub.refl _)) ?_
        refine W.move rfl rfl ?_
        refine W.nil ?_
        exact At.step (Ext.refl _) rfl
      refine And.intro ?_ ?_
      · intro L_ w4 hX_ hs_ hf_ hd_
        obtain ⟨v0, e0, r0⟩ := hd_ 0 rfl
        obtain rfl : (keyV key : Value) = v0 := Eq.symm r0
        obtain ⟨v1, e1, r1⟩ := hd_ 1 rfl
        obtain rfl : (.slice ao beside.length co : Value) = v1 := Eq.symm r1
        obtain ⟨v2, e2, r2⟩ := hd_ 2 rfl
        obtain rfl : (.slice ao16 (b.take (b.length - 16)).length c16 : Value) = v2 := Eq.symm r2
        refine W.step [(17, _), (18, _), (19, _)] (Sub.cons (e0 _ rfl) (Sub.cons (e1 _ rfl) (Sub.cons (e2 _ rfl) (Sub.refl _)))) ?_
        refine W.call Try.call35 rfl (Seal.rtag_ok key _ _ beside _ _ _ _ hk ((hS.ext hX3).ext hX_) (hS16.ext hX_) (by omega) (by omega)) rfl ?_
        rintro v20 w20 ⟨⟨q20, k20, rfl, hS20, _⟩, hX20⟩
        refine W.nil ?_
        exact At.step hX20 ⟨_, _, rfl, hS20⟩
      refine And.intro ?_ ?_
      · intro L_ w4 hX_ hs_ hf_ hd_
        obtain ⟨v3, e3, r3⟩ := hd_ 3 rfl
        obtain ⟨ao3, c3, rfl, hS3⟩ := r3
        refine W.step [(20, _)] (Sub.cons (e3 _ rfl) (Sub.refl _)) ?_
        refine W.bytesStr Try.underlying24 Try.underlying5 Try.underlying9 rfl hS3 rfl ?_
        refine W.nil ?_
        exact At.step (Ext.refl _) rfl
      refine And.intro ?_ ?_
      · intro L_ w4 hX_ hs_ hf_ hd_
        refine W.step [(2, _)] (Sub.cons (hs_ _ _ rfl) (Sub.refl _)) ?_
        refine W.move rfl rfl ?_
        refine W.nil ?_
        exact At.step (Ext.refl _) rfl
      refine And.intro ?_ ?_
      · intro L_ w4 hX_ hs_ hf_ hd_
        refine W.step [(2, _)] (Sub.cons (hs_ _ _ rfl) (Sub.refl _)) ?_
        refine W.move rfl rfl ?_
        refine W.nil ?_
        exact At.step (Ext.refl _) rfl
      refine And.intro ?_ ?_
      · intro L_ w4 hX_ hs_ hf_ hd_
        obtain ⟨v6, e6, r6⟩ := hd_ 6 rfl
        obtain rfl : (.slice bo b.length cb : Value) = v6 := Eq.symm r6
        refine W.step [(23, _)] (Sub.cons (e6 _ rfl) (Sub.refl _)) ?_
        refine W.lenS rfl Try.underlying24 rfl ?_
        refine W.nil ?_
        exact At.step (Ext.refl _) rfl
      refine And.intro ?_ ?_
      · intro L_ w4 hX_ hs_ hf_ hd_
        obtain ⟨v7, e7, r7⟩ := hd_ 7 rfl
        obtain rfl : (.int .i64 (b.length : Int) : Value) = v7 := Eq.symm r7
        refine W.step [(24, _)] (Sub.cons (e7 _ rfl) (Sub.refl _)) ?_
        first | refine W.subI rfl rfl (by omega) rfl ?_ | refine W.subW rfl rfl rfl ?_
        refine W.nil ?_
        exact At.step (Ext.refl _) rfl
      refine And.intro ?_ ?_
      · intro L_ w4 hX_ hs_ hf_ hd_
        obtain ⟨v5, e5, r5⟩ := hd_ 5 rfl
        obtain rfl : (.slice bo b.length cb : Value) = v5 := Eq.symm r5
        obtain ⟨v8, e8, r8⟩ := hd_ 8 rfl
        obtain rfl : (.int .i64 ((b.length : Int) - 16) : Value) = v8 := Eq.symm r8
        refine W.step [(22, _), (25, _)] (Sub.cons (e5 _ rfl) (Sub.cons (e8 _ rfl) (Sub.refl _))) ?_
        refine W.slice (lo := b.length - 16) (hi := b.length) E8 Try.underlying24 rfl ((hT.ext hX3).ext hX_) (.inr ⟨_, .i64, rfl, look_eq rfl (by rw [show (b.length : Int) - 16 = ((b.length - 16 : Nat) : Int) by omega])⟩) (.inl ⟨rfl, rfl⟩) (by omega) (by omega) rfl ?_
        intro ao26 c26 hS26 _
        have hS26 : Bs w4 ao26 c26 (b.drop (b.length - 16)) := by
          rw [Nat.mul_one, Nat.mul_one, ← List.map_drop, List.take_of_length_le (by rw [List.length_map, List.length_drop]; exact Nat.le_refl _)] at hS26
          show Sl _ _ _ _ _ _
          rw [List.length_drop]
          exact hS26
        refine W.nil ?_
        exact At.step (Ext.refl _) ⟨ao26, c26, by rw [List.length_drop], hS26⟩
      refine And.intro ?_ ?_
      · intro L_ w4 hX_ hs_ hf_ hd_
        obtain ⟨v9, e9, r9⟩ := hd_ 9 rfl
        obtain ⟨ao9, c9, rfl, hS9⟩ := r9
        refine W.step [(26, _)] (Sub.cons (e9 _ rfl) (Sub.refl _)) ?_
        refine W.bytesStr Try.underlying24 Try.underlying5 Try.underlying9 rfl hS9 rfl ?_
        refine W.nil ?_
        exact At.step (Ext.refl _) rfl
      refine And.intro ?_ ?_
      · intro L_ w4 hX_ hs_ hf_ hd_
        obtain ⟨v4, e4, r4⟩ := hd_ 4 rfl
        obtain rfl : (strV (tagV key beside (b.take (b.length - 16))) : Value) = v4 := Eq.symm r4
        obtain ⟨v10, e10, r10⟩ := hd_ 10 rfl
        obtain rfl : (strV (b.drop (b.length - 16)) : Value) = v10 := Eq.symm r10
        refine W.step [(21, _), (27, _)] (Sub.cons (e4 _ rfl) (Sub.cons (e10 _ rfl) (Sub.refl _))) ?_
        refine W.neqStr (a := tagV key beside (b.take (b.length - 16))) (b := b.drop (b.length - 16)) rfl rfl rfl ?_
        refine W.nil ?_
        exact At.step (Ext.refl _) rfl
      exact trivial
    · intro L_ w4 hX4 hs_ hv_
      obtain ⟨v11, e11, r11⟩ := hv_ 11 (by decide)
      obtain rfl : (.bool (decide (¬ tagV key beside (b.take (b.length - 16)) = b.drop (b.length - 16))) : Value) = v11 := Eq.symm r11
      refine W.weaken (l' := [(28, _), (1, _), (2, _), (3, _), (8, _)]) (Sub.cons (e11 _ rfl) (Sub.cons (hs_ _ _ rfl) (Sub.cons (hs_ _ _ rfl) (Sub.cons (hs_ _ _ rfl) (Sub.cons (hs_ _ _ rfl) (Sub.nil)))))) ?_
      refine W.nil ?_
      refine At.thenCode ?_
      first | refine C.condD rfl (fun c28 => ?_) (fun c28 => ?_) | refine C.cond rfl (fun c28 => ?_) (fun c28 => ?_)
      · refine C.seq ?_
        refine C.region ?_
        refine W.assign rfl rfl ?_
        refine W.assign rfl rfl ?_
        refine W.nil ?_
        refine At.thenCode ?_
        refine C.ret ?_
        refine At.thenRet ?_
        refine At.ret2 Try.results16 rfl rfl ?_
        first
        | exact ⟨OpenR.bad (fun h => by have := h.1; omega), hX3⟩
        | exact ⟨OpenR.bad (fun h => by have := h.2; simp_all), hX3.ext hX4⟩
        | exact ⟨OpenR.good ⟨by omega, by simp_all⟩ (ownsRow_base ho31 hs34), (hX3.ext hX4).ext hX31⟩
      · refine C.skip ?_
        refine At.thenCode ?_
        refine C.seq ?_
        refine C.region ?_
        refine W.loadA rfl ((hB3.ext hX4).cells (o := 0)) Try.underlying23 rfl (by rw [List.drop_zero, List.length_map, hk]; kernel_rfl) rfl ?_
        refine W.move rfl rfl ?_
        refine W.call Try.call34 rfl (Seal.stream_ok key _ _ (b.take (b.length - 16)) _ hk (hS16.ext hX4) (by omega)) rfl ?_
        rintro v31 w31 ⟨ho31, hX31⟩
        have hs34 := (hX3.ext hX4).size
        refine W.assign rfl rfl ?_
        refine W.assign rfl rfl ?_
        refine W.nil ?_
        refine At.thenCode ?_
        refine C.ret ?_
        refine At.ret2 Try.results16 rfl rfl ?_
        first
        | exact ⟨OpenR.bad (fun h => by have := h.1; omega), hX3⟩
        | exact ⟨OpenR.bad (fun h => by have := h.2; simp_all), hX3.ext hX4⟩
        | exact ⟨OpenR.good ⟨by omega, by simp_all⟩ (ownsRow_base ho31 hs34), (hX3.ext hX4).ext hX31⟩
end Go.Proofs.Ytkjmllohbohliaa.Seal
