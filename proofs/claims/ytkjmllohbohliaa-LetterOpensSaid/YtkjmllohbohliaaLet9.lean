/- Package letter's Open, and the reference's Envelope. -/
import Derived.Test.YtkjmllohbohliaaLet7
import Derived.Test.YtkjmllohbohliaaKq
namespace Go.Proofs.Ytkjmllohbohliaa.Let
open Go Go.RowKit Go.Proofs.Ytkjmllohbohliaa.KW Go.Proofs.Ytkjmllohbohliaa.Words Go.Proofs.Ytkjmllohbohliaa.Sha Go.Proofs.Ytkjmllohbohliaa.RSha Go.Proofs.Ytkjmllohbohliaa.Derive Go.Proofs.Ytkjmllohbohliaa.Seal Go.Proofs.Ytkjmllohbohliaa.Grp Go.Proofs.Ytkjmllohbohliaa.Cod Go.Proofs.Ytkjmllohbohliaa.Modp
set_option linter.unusedVariables false
set_option linter.unusedSimpArgs false
set_option maxRecDepth 100000
def oenP (s : Nat) (b : List UInt8) : List UInt8 := openV (sealedV (getV b 0 8) s) [] (b.drop 8)
def OenOk (s : Nat) (b : List UInt8) : Prop := (getE b 0 8 = 0 ∧ Rt (getV b 0 8)) ∧ openOk (sealedV (getV b 0 8) s) [] (b.drop 8) ∧ 32 ≤ (oenP s b).length
instance (s : Nat) (b : List UInt8) : Decidable (OenOk s b) := by unfold OenOk; infer_instance
def oenK (s : Nat) (b : List UInt8) : List UInt8 := if OenOk s b then (oenP s b).take 32 else List.replicate 32 0
def oenB (s : Nat) (b : List UInt8) : List UInt8 := if OenOk s b then (oenP s b).drop 32 else []
theorem oen_bad {s : Nat} {b : List UInt8} (h : ¬ OenOk s b) : oenK s b = List.replicate 32 0 ∧ oenB s b = [] := ⟨if_neg h, if_neg h⟩
theorem oen_good {s : Nat} {b : List UInt8} (h : OenOk s b) : oenK s b = (oenP s b).take 32 ∧ oenB s b = (oenP s b).drop 32 := ⟨if_pos h, if_pos h⟩
theorem oenK_length (s : Nat) (b : List UInt8) : (oenK s b).length = 32 := by
  unfold oenK; split
  · rename_i h; have := h.2.2; rw [List.length_take]; omega
  · rfl
/-- b[lo:] of bytes. -/
theorem Bs.from {w : World} {ao : Option Addr} {c lo : Nat} {xs : List UInt8} (h : Sl w ao (xs.length - lo) c 1 (((xs.map byteV).drop (lo * 1)).take ((xs.length - lo) * 1))) : Bs w ao c (xs.drop lo) := by
  rw [Nat.mul_one, Nat.mul_one, ← List.map_drop, List.take_of_length_le (by simp)] at h
  show Sl _ _ _ _ _ _
  rw [List.length_drop]
  exact h
theorem Bs.upto {w : World} {ao : Option Addr} {c hi : Nat} {xs : List UInt8} (hh : hi ≤ xs.length) (h : Sl w ao (hi - 0) c 1 (((xs.map byteV).drop (0 * 1)).take ((hi - 0) * 1))) : Bs w ao c (xs.take hi) := by
  rw [Nat.zero_mul, List.drop_zero, Nat.mul_one, Nat.sub_zero, ← List.map_take] at h
  show Sl _ _ _ _ _ _
  rw [List.length_take, Nat.min_eq_left hh]
  exact h
theorem Open_ok (s : Nat) (a : Option Addr) (c : Nat) (b : List UInt8) (w : World) (hs : s < 18446744073709551616) (hb : Bs w a c b) (hl : b.length ≤ 200000) :
    Ct Try.prog 23 #[.int .u64 (s : Int), .slice a b.length c] w (fun v w' => ∃ ao co, v = .tuple #[.agg (letC (oenK s b) (.slice ao (oenB s b).length co)).toArray, .bool (decide (OenOk s b))] ∧ Bs w' ao co (oenB s b) ∧ Ext w w') := by
  refine Ct.enter [(0, .int .u64 (s : Int)), (1, .slice a b.length c)] Try.func23 rfl rfl rfl rfl ?_
  obtain ⟨X, hX⟩ : ∃ X, X = getV b 0 8 := ⟨_, rfl⟩
  obtain ⟨T, hT⟩ : ∃ T, T = sealedV X s := ⟨_, rfl⟩
  have hTl : T.length = 32 := by rw [hT]; exact keyD_length _ _
  obtain ⟨p, hp⟩ : ∃ p, p = openV T [] (b.drop 8) := ⟨_, rfl⟩
  obtain ⟨q, hq⟩ : ∃ q, q = decide (openOk T [] (b.drop 8)) := ⟨_, rfl⟩
  have hpl : p.length ≤ b.length := by rw [hp]; have := openV_le T [] (b.drop 8); rw [List.length_drop] at this; omega
  have hpe : p = oenP s b := by rw [hp, hT, hX]; rfl
  have hOk : OenOk s b ↔ (getE b 0 8 = 0 ∧ Rt X) ∧ openOk T [] (b.drop 8) ∧ 32 ≤ p.length := by rw [hpe, hT, hX]; rfl
  refine C.seq ?_
  refine C.region ?_
  refine W.alloc (z := .agg zeroLetC.toArray) zeroLetC (by kernel_rfl) rfl rfl ?_
  intro g4 w4 hg4 hXz hB4
  refine W.assign rfl rfl ?_
  refine W.nil ?_
  refine At.thenCode ?_
  refine C.seq ?_
  refine C.region ?_
  refine W.move rfl rfl ?_
  refine W.call Try.call49 rfl (Words.Get64_ok a c b 0 _ (hb.ext hXz) (by omega) (by omega)) rfl ?_
  rintro v12 w12 ⟨rfl, rfl⟩
  rw [← hX]
  refine W.move rfl rfl ?_
  refine W.extract rfl rfl rfl ?_
  refine W.extract rfl rfl rfl ?_
  refine W.assign rfl rfl ?_
  refine W.assign rfl rfl ?_
  refine W.nil ?_
  refine At.thenCode ?_
  refine C.seq ?_
  refine C.seq ?_
  refine C.region ?_
  refine W.move rfl rfl ?_
  refine W.neqI rfl rfl rfl ?_
  refine W.move rfl rfl ?_
  first | refine W.splitD (fun g17 => ?_) (fun g17 => ?_) | refine W.splitB (fun g17 => ?_) (fun g17 => ?_)
  · refine W.skips rfl rfl rfl rfl rfl rfl ?_
    refine W.skips rfl rfl rfl rfl rfl rfl ?_
    refine W.skips rfl rfl rfl rfl rfl rfl ?_
    refine W.pickT rfl rfl rfl ?_
    refine W.nil ?_
    refine At.thenCode ?_
    refine C.condT rfl ?_
    refine C.seq ?_
    refine C.region ?_
    refine W.buildS (fs := _) [(0, 32), (32, 1)] zeroLetC zeroLetC Try.underlying36 (by kernel_rfl) (by kernel_rfl) rfl rfl rfl ?_
    refine W.storeA zeroLetC rfl rfl hB4 rfl (by kernel_rfl) (letC_one _ _ _ _) ?_
    intro wy hcy hBy
    refine W.assign rfl rfl ?_
    refine W.nil ?_
    refine At.thenCode ?_
    refine C.ret ?_
    refine At.thenRet ?_
    -- RESULT IN A CELL
    have hno : ¬ OenOk s b := fun h => by have := (hOk.1 h).1.1; omega
    obtain ⟨e1, e2⟩ := oen_bad hno
    refine At.retCT Try.results23 rfl rfl (hBy.cells (o := 0)) Try.underlying36 rfl (by kernel_rfl) ?_
    rw [List.drop_zero, e1, e2, decide_eq_false hno]
    exact ⟨none, 0, rfl, Sl.none _ _, hXz.news hcy fun k hk => Or.inr (by omega)⟩
  · refine W.wants rfl rfl rfl rfl ?_
    refine W.move rfl rfl ?_
    refine W.wants rfl rfl rfl rfl ?_
    refine W.call Try.call50 rfl (Grp.Right_ok _ _) rfl ?_
    rintro v w' ⟨rfl, rfl⟩
    refine W.wants rfl rfl rfl rfl ?_
    first | refine W.notD rfl rfl ?_ | refine W.notB rfl rfl ?_
    refine W.pickF rfl rfl rfl ?_
    refine W.nil ?_
    refine At.thenCode ?_
    first | refine C.condD rfl (fun c21 => ?_) (fun c21 => ?_) | refine C.cond rfl (fun c21 => ?_) (fun c21 => ?_)
    · refine C.seq ?_
      refine C.region ?_
      refine W.buildS (fs := _) [(0, 32), (32, 1)] zeroLetC zeroLetC Try.underlying36 (by kernel_rfl) (by kernel_rfl) rfl rfl rfl ?_
      refine W.storeA zeroLetC rfl rfl hB4 rfl (by kernel_rfl) (letC_one _ _ _ _) ?_
      intro wy hcy hBy
      refine W.assign rfl rfl ?_
      refine W.nil ?_
      refine At.thenCode ?_
      refine C.ret ?_
      refine At.thenRet ?_
      -- RESULT IN A CELL
      have hno : ¬ OenOk s b := fun h => by have h1 := (hOk.1 h).1.2; simp [h1] at c21
      obtain ⟨e1, e2⟩ := oen_bad hno
      refine At.retCT Try.results23 rfl rfl (hBy.cells (o := 0)) Try.underlying36 rfl (by kernel_rfl) ?_
      rw [List.drop_zero, e1, e2, decide_eq_false hno]
      exact ⟨none, 0, rfl, Sl.none _ _, hXz.news hcy fun k hk => Or.inr (by omega)⟩
    · have hE0 : getE b 0 8 = 0 := by omega
      have hRt : Rt X := by simpa using c21
      have hlen : 8 ≤ b.length := by have := getE_0.1 hE0; omega
      refine C.skip ?_
      refine At.thenCode ?_
      refine C.seq ?_
      refine C.regionAny 11 ((fun v w => v = .int .u64 (X : Int)) :: (fun v w => v = .int .u64 (s : Int)) :: (fun v w => v = keyV T) :: (fun v w => v = .slice a b.length c) :: (fun v w => Rep w v (b.drop 8)) :: (fun v w => ∃ ao c', v = .tuple #[.slice ao p.length c', .bool q] ∧ Bs w ao c' p) :: (fun v w => ∃ ao c', v = .tuple #[.slice ao p.length c', .bool q] ∧ Bs w ao c' p) :: (fun v w => Rep w v p) :: (fun v w => v = .bool q) :: (fun v w => Rep w v p) :: (fun v w => v = .bool q) :: []) [(0, .int .u64 (s : Int)), (1, .slice a b.length c), (4, .pointer (some ⟨g4, 0, none⟩)), (6, .int .u64 (X : Int))] [] (Sub.cons (rfl) (Sub.cons (rfl) (Sub.cons (rfl) (Sub.cons (rfl) (Sub.nil))))) (Sub.nil) (Sub.cons (rfl) (Sub.cons (rfl) (Sub.cons (rfl) (Sub.cons (rfl) (Sub.nil))))) (by kernel_rfl) rfl rfl rfl (And.intro (fun _ _ _ h _ => h) (And.intro (fun _ _ _ h _ => h) (And.intro (fun _ _ _ h _ => h) (And.intro (fun _ _ _ h _ => h) (And.intro (fun _ _ _ h g => Rep.ext h g) (And.intro (fun _ _ _ ⟨ao, c', e, h⟩ g => ⟨ao, c', e, Sl.ext h g⟩) (And.intro (fun _ _ _ ⟨ao, c', e, h⟩ g => ⟨ao, c', e, Sl.ext h g⟩) (And.intro (fun _ _ _ h g => Rep.ext h g) (And.intro (fun _ _ _ h _ => h) (And.intro (fun _ _ _ h g => Rep.ext h g) (And.intro (fun _ _ _ h _ => h) (trivial)))))))))))) ?_ ?_
      · refine And.intro ?_ ?_
        · intro L_ wr hX_ hs_ hf_ hd_
          refine W.step [(6, _)] (Sub.cons (hs_ _ _ rfl) (Sub.refl _)) ?_
          refine W.move rfl rfl ?_
          refine W.nil ?_
          exact At.step (Ext.refl _) rfl
        refine And.intro ?_ ?_
        · intro L_ wr hX_ hs_ hf_ hd_
          refine W.step [(0, _)] (Sub.cons (hs_ _ _ rfl) (Sub.refl _)) ?_
          refine W.move rfl rfl ?_
          refine W.nil ?_
          exact At.step (Ext.refl _) rfl
        refine And.intro ?_ ?_
        · intro L_ wr hX_ hs_ hf_ hd_
          obtain ⟨v0, e0, r0⟩ := hd_ 0 rfl
          obtain rfl : (.int .u64 (X : Int) : Value) = v0 := Eq.symm r0
          obtain ⟨v1, e1, r1⟩ := hd_ 1 rfl
          obtain rfl : (.int .u64 (s : Int) : Value) = v1 := Eq.symm r1
          refine W.step [(24, _), (25, _)] (Sub.cons (e0 _ rfl) (Sub.cons (e1 _ rfl) (Sub.refl _))) ?_
          refine W.call Try.call46 rfl (Let.sealed_ok X s hs _) rfl ?_
          rintro v26 w26 ⟨rfl, hX26⟩
          rw [← hT]
          refine W.nil ?_
          exact At.step hX26 rfl
        refine And.intro ?_ ?_
        · intro L_ wr hX_ hs_ hf_ hd_
          refine W.step [(1, _)] (Sub.cons (hs_ _ _ rfl) (Sub.refl _)) ?_
          refine W.move rfl rfl ?_
          refine W.nil ?_
          exact At.step (Ext.refl _) rfl
        refine And.intro ?_ ?_
        · intro L_ wr hX_ hs_ hf_ hd_
          obtain ⟨v3, e3, r3⟩ := hd_ 3 rfl
          obtain rfl : (.slice a b.length c : Value) = v3 := Eq.symm r3
          refine W.step [(27, _)] (Sub.cons (e3 _ rfl) (Sub.refl _)) ?_
          refine W.slice (lo := 8) (hi := b.length) E8 Try.underlying24 rfl ((hb.ext hXz).ext hX_) (.inr ⟨_, .i64, rfl, rfl⟩) (.inl ⟨rfl, rfl⟩) hlen (Nat.le_refl _) rfl ?_
          intro ao28 c28 hS28 _
          refine W.nil ?_
          exact At.step (Ext.refl _) ⟨ao28, c28, by rw [List.length_drop], Bs.from hS28⟩
        refine And.intro ?_ ?_
        · intro L_ wr hX_ hs_ hf_ hd_
          obtain ⟨v2, e2, r2⟩ := hd_ 2 rfl
          obtain rfl : (keyV T : Value) = v2 := Eq.symm r2
          obtain ⟨v4, e4, r4⟩ := hd_ 4 rfl
          obtain ⟨a4', c4', rfl, hb4⟩ := r4
          refine W.step [(26, _), (28, _)] (Sub.cons (e2 _ rfl) (Sub.cons (e4 _ rfl) (Sub.refl _))) ?_
          refine W.call Try.call14 rfl (Seal.Open_ok T none 0 [] a4' c4' (b.drop 8) wr hTl (Sl.none _ _) hb4 (by simp) (by rw [List.length_drop]; omega)) rfl ?_
          rintro v29 w29 ⟨⟨a29, c29, rfl, hS29, _⟩, hX29⟩
          rw [← hp] at hS29 ⊢
          rw [← hq]
          refine W.nil ?_
          exact At.step hX29 ⟨_, _, rfl, hS29⟩
        refine And.intro ?_ ?_
        · intro L_ wr hX_ hs_ hf_ hd_
          obtain ⟨v5, e5, r5⟩ := hd_ 5 rfl
          obtain ⟨a5, c5, rfl, hb5⟩ := r5
          refine W.step [(29, _)] (Sub.cons (e5 _ rfl) (Sub.refl _)) ?_
          refine W.move rfl rfl ?_
          refine W.nil ?_
          exact At.step (Ext.refl _) ⟨_, _, rfl, hb5⟩
        refine And.intro ?_ ?_
        · intro L_ wr hX_ hs_ hf_ hd_
          obtain ⟨v6, e6, r6⟩ := hd_ 6 rfl
          obtain ⟨a6, c6, rfl, hb6⟩ := r6
          refine W.step [(23, _)] (Sub.cons (e6 _ rfl) (Sub.refl _)) ?_
          refine W.extract rfl rfl rfl ?_
          refine W.nil ?_
          exact At.step (Ext.refl _) ⟨_, _, rfl, hb6⟩
        refine And.intro ?_ ?_
        · intro L_ wr hX_ hs_ hf_ hd_
          obtain ⟨v6, e6, r6⟩ := hd_ 6 rfl
          obtain ⟨a6, c6, rfl, hb6⟩ := r6
          refine W.step [(23, _)] (Sub.cons (e6 _ rfl) (Sub.refl _)) ?_
          refine W.extract rfl rfl rfl ?_
          refine W.nil ?_
          exact At.step (Ext.refl _) rfl
        refine And.intro ?_ ?_
        · intro L_ wr hX_ hs_ hf_ hd_
          obtain ⟨v7, e7, r7⟩ := hd_ 7 rfl
          obtain ⟨a7, c7, rfl, hb7⟩ := r7
          refine W.step [(30, _)] (Sub.cons (e7 _ rfl) (Sub.refl _)) ?_
          refine W.assign rfl rfl ?_
          refine W.nil ?_
          exact At.step (Ext.refl _) ⟨_, _, rfl, hb7⟩
        refine And.intro ?_ ?_
        · intro L_ wr hX_ hs_ hf_ hd_
          obtain ⟨v8, e8, r8⟩ := hd_ 8 rfl
          obtain rfl : (.bool q : Value) = v8 := Eq.symm r8
          refine W.step [(31, _)] (Sub.cons (e8 _ rfl) (Sub.refl _)) ?_
          refine W.assign rfl rfl ?_
          refine W.nil ?_
          exact At.step (Ext.refl _) rfl
        exact trivial
      · intro L_ wr hX4 hs_ hv_
        obtain ⟨v9, e9, r9⟩ := hv_ 9 (by decide)
        obtain ⟨a9, c9, rfl, hb9⟩ := r9
        obtain ⟨v10, e10, r10⟩ := hv_ 10 (by decide)
        obtain rfl : (.bool q : Value) = v10 := Eq.symm r10
        refine W.weaken (l' := [(8, _), (9, _), (0, _), (1, _), (4, _), (6, _)]) (Sub.cons (e9 _ rfl) (Sub.cons (e10 _ rfl) (Sub.cons (hs_ _ _ rfl) (Sub.cons (hs_ _ _ rfl) (Sub.cons (hs_ _ _ rfl) (Sub.cons (hs_ _ _ rfl) (Sub.nil))))))) ?_
        refine W.nil ?_
        refine At.thenCode ?_
        refine C.seq ?_
        refine C.seq ?_
        refine C.region ?_
        refine W.move rfl rfl ?_
        first | refine W.notD rfl rfl ?_ | refine W.notB rfl rfl ?_
        refine W.move rfl rfl ?_
        first | refine W.splitD (fun g34 => ?_) (fun g34 => ?_) | refine W.splitB (fun g34 => ?_) (fun g34 => ?_)
        · refine W.skips rfl rfl rfl rfl rfl rfl ?_
          refine W.skips rfl rfl rfl rfl rfl rfl ?_
          refine W.skips rfl rfl rfl rfl rfl rfl ?_
          refine W.pickT rfl rfl rfl ?_
          refine W.nil ?_
          refine At.thenCode ?_
          refine C.condT rfl ?_
          refine C.seq ?_
          refine C.region ?_
          refine W.buildS (fs := _) [(0, 32), (32, 1)] zeroLetC zeroLetC Try.underlying36 (by kernel_rfl) (by kernel_rfl) rfl rfl rfl ?_
          refine W.storeA zeroLetC rfl rfl (hB4.ext hX4) rfl (by kernel_rfl) (letC_one _ _ _ _) ?_
          intro wy hcy hBy
          refine W.assign rfl rfl ?_
          refine W.nil ?_
          refine At.thenCode ?_
          refine C.ret ?_
          refine At.thenRet ?_
          -- RESULT IN A CELL
          have hno : ¬ OenOk s b := fun h => by
            have h1 := (hOk.1 h).2.1
            have : q = false := by simpa using g34
            rw [hq] at this; exact of_decide_eq_false this h1
          obtain ⟨e1, e2⟩ := oen_bad hno
          refine At.retCT Try.results23 rfl rfl (hBy.cells (o := 0)) Try.underlying36 rfl (by kernel_rfl) ?_
          rw [List.drop_zero, e1, e2, decide_eq_false hno]
          exact ⟨none, 0, rfl, Sl.none _ _, (hXz.ext hX4).news hcy fun k hk => Or.inr (by omega)⟩
        · refine W.wants rfl rfl rfl rfl ?_
          refine W.move rfl rfl ?_
          refine W.wants rfl rfl rfl rfl ?_
          refine W.lenS rfl Try.underlying24 rfl ?_
          refine W.wants rfl rfl rfl rfl ?_
          refine W.lssI rfl rfl rfl ?_
          refine W.pickF rfl rfl rfl ?_
          refine W.nil ?_
          refine At.thenCode ?_
          first | refine C.condD rfl (fun c38 => ?_) (fun c38 => ?_) | refine C.cond rfl (fun c38 => ?_) (fun c38 => ?_)
          · refine C.seq ?_
            refine C.region ?_
            refine W.buildS (fs := _) [(0, 32), (32, 1)] zeroLetC zeroLetC Try.underlying36 (by kernel_rfl) (by kernel_rfl) rfl rfl rfl ?_
            refine W.storeA zeroLetC rfl rfl (hB4.ext hX4) rfl (by kernel_rfl) (letC_one _ _ _ _) ?_
            intro wy hcy hBy
            refine W.assign rfl rfl ?_
            refine W.nil ?_
            refine At.thenCode ?_
            refine C.ret ?_
            refine At.thenRet ?_
            -- RESULT IN A CELL
            have hno : ¬ OenOk s b := fun h => by have h1 := (hOk.1 h).2.2; omega
            obtain ⟨e1, e2⟩ := oen_bad hno
            refine At.retCT Try.results23 rfl rfl (hBy.cells (o := 0)) Try.underlying36 rfl (by kernel_rfl) ?_
            rw [List.drop_zero, e1, e2, decide_eq_false hno]
            exact ⟨none, 0, rfl, Sl.none _ _, (hXz.ext hX4).news hcy fun k hk => Or.inr (by omega)⟩
          · have hp32 : 32 ≤ p.length := by omega
            have hopen : openOk T [] (b.drop 8) := by
              have : q = true := by simpa using g34
              rw [hq] at this; exact of_decide_eq_true this
            have hgood : OenOk s b := hOk.2 ⟨⟨hE0, hRt⟩, hopen, hp32⟩
            obtain ⟨hK, hB⟩ := oen_good hgood
            rw [← hpe] at hK hB
            have hKl := oenK_length s b
            refine C.skip ?_
            refine At.thenCode ?_
            refine C.seq ?_
            refine C.regionAny 8 ((fun v w => v = .slice a9 p.length c9) :: (fun v w => Rep w v (p.take 32)) :: (fun v w => ∃ ad, v = .pointer (some ad) ∧ Cells w ad ((p.take 32).map byteV)) :: (fun v w => v = keyV (p.take 32)) :: (fun v w => v = .slice a9 p.length c9) :: (fun v w => Rep w v (p.drop 32)) :: (fun v w => ∃ ao c', v = .slice ao (p.drop 32).length c' ∧ Bs w ao c' (p.drop 32) ∧ ∀ ad, ao = some ad → wr.heap.size ≤ ad.block) :: (fun v w => NewLet wr w v (p.take 32) (p.drop 32)) :: []) [(4, .pointer (some ⟨g4, 0, none⟩)), (8, .slice a9 p.length c9)] [] (Sub.cons (rfl) (Sub.cons (rfl) (Sub.nil))) (Sub.nil) (Sub.cons (rfl) (Sub.cons (rfl) (Sub.nil))) (by kernel_rfl) rfl rfl rfl (And.intro (fun _ _ _ h _ => h) (And.intro (fun _ _ _ h g => Rep.ext h g) (And.intro (fun _ _ _ ⟨ad, e, h⟩ g => ⟨ad, e, h.chg g (fun c => c)⟩) (And.intro (fun _ _ _ h _ => h) (And.intro (fun _ _ _ h _ => h) (And.intro (fun _ _ _ h g => Rep.ext h g) (And.intro (fun _ _ _ ⟨ao, c', e, h, q⟩ g => ⟨ao, c', e, Sl.ext h g, q⟩) (And.intro (fun _ _ _ ⟨a, c, e, h, q⟩ g => ⟨a, c, e, Sl.ext h g, q⟩) (trivial))))))))) ?_ ?_
            · refine And.intro ?_ ?_
              · intro L_ wq hX_ hs_ hf_ hd_
                refine W.step [(8, _)] (Sub.cons (hs_ _ _ rfl) (Sub.refl _)) ?_
                refine W.move rfl rfl ?_
                refine W.nil ?_
                exact At.step (Ext.refl _) rfl
              refine And.intro ?_ ?_
              · intro L_ wq hX_ hs_ hf_ hd_
                obtain ⟨v0, e0, r0⟩ := hd_ 0 rfl
                obtain rfl : (.slice a9 p.length c9 : Value) = v0 := Eq.symm r0
                refine W.step [(40, _)] (Sub.cons (e0 _ rfl) (Sub.refl _)) ?_
                refine W.slice (lo := 0) (hi := 32) E8 Try.underlying24 rfl (hb9.ext hX_) (.inl ⟨rfl, rfl⟩) (.inr ⟨_, .i64, rfl, rfl⟩) (by omega) hp32 rfl ?_
                intro ao41 c41 hS41 _
                refine W.nil ?_
                exact At.step (Ext.refl _) ⟨ao41, c41, by rw [List.length_take, Nat.min_eq_left hp32], Bs.upto hp32 hS41⟩
              refine And.intro ?_ ?_
              · intro L_ wq hX_ hs_ hf_ hd_
                obtain ⟨v1, e1, r1⟩ := hd_ 1 rfl
                obtain ⟨a1', c1', rfl, hb1⟩ := r1
                refine W.step [(41, _)] (Sub.cons (e1 _ rfl) (Sub.refl _)) ?_
                obtain ⟨ad1, rfl⟩ : ∃ ad, a1' = some ad := by
                  cases a1' with
                  | none => have := hb1.nil rfl; have := hb1.le; rw [List.length_take, Nat.min_eq_left hp32] at this; omega
                  | some ad => exact ⟨ad, rfl⟩
                refine W.arrayAt Try.underlying23 rfl (by rw [List.length_take, Nat.min_eq_left hp32]; exact Nat.le_refl _) rfl ?_
                refine W.nil ?_
                exact At.step (Ext.refl _) ⟨ad1, rfl, hb1.at_ ad1 rfl⟩
              refine And.intro ?_ ?_
              · intro L_ wq hX_ hs_ hf_ hd_
                obtain ⟨v2, e2, r2⟩ := hd_ 2 rfl
                obtain ⟨ad2, rfl, hc2⟩ := r2
                refine W.step [(42, _)] (Sub.cons (e2 _ rfl) (Sub.refl _)) ?_
                refine W.loadA rfl hc2 Try.underlying23 rfl (by rw [List.length_map, List.length_take, Nat.min_eq_left hp32]; kernel_rfl) rfl ?_
                refine W.nil ?_
                exact At.step (Ext.refl _) rfl
              refine And.intro ?_ ?_
              · intro L_ wq hX_ hs_ hf_ hd_
                refine W.step [(8, _)] (Sub.cons (hs_ _ _ rfl) (Sub.refl _)) ?_
                refine W.move rfl rfl ?_
                refine W.nil ?_
                exact At.step (Ext.refl _) rfl
              refine And.intro ?_ ?_
              · intro L_ wq hX_ hs_ hf_ hd_
                obtain ⟨v4, e4, r4⟩ := hd_ 4 rfl
                obtain rfl : (.slice a9 p.length c9 : Value) = v4 := Eq.symm r4
                refine W.step [(44, _)] (Sub.cons (e4 _ rfl) (Sub.refl _)) ?_
                refine W.slice (lo := 32) (hi := p.length) E8 Try.underlying24 rfl (hb9.ext hX_) (.inr ⟨_, .i64, rfl, rfl⟩) (.inl ⟨rfl, rfl⟩) hp32 (Nat.le_refl _) rfl ?_
                intro ao45 c45 hS45 _
                refine W.nil ?_
                exact At.step (Ext.refl _) ⟨ao45, c45, by rw [List.length_drop], Bs.from hS45⟩
              refine And.intro ?_ ?_
              · intro L_ wq hX_ hs_ hf_ hd_
                obtain ⟨v5, e5, r5⟩ := hd_ 5 rfl
                obtain ⟨a5', c5', rfl, hb5⟩ := r5
                refine W.step [(45, _)] (Sub.cons (e5 _ rfl) (Sub.refl _)) ?_
                refine W.call Try.call51 rfl (Let.cloneB_ok a5' c5' (p.drop 32) _ hb5 (by rw [List.length_drop]; omega)) rfl ?_
                rintro v46 w46 ⟨hO46, hX46⟩
                obtain ⟨a46, c46, rfl, hS46, hq46⟩ := ownsRow_form hO46
                refine W.nil ?_
                exact At.step hX46 ⟨_, _, rfl, hS46, fun ad e => Nat.le_trans hX_.size (hq46 ad e)⟩
              refine And.intro ?_ ?_
              · intro L_ wq hX_ hs_ hf_ hd_
                obtain ⟨v3, e3, r3⟩ := hd_ 3 rfl
                obtain rfl : (keyV (p.take 32) : Value) = v3 := Eq.symm r3
                obtain ⟨v6, e6, r6⟩ := hd_ 6 rfl
                obtain ⟨a6', c6', rfl, hb6, hq6⟩ := r6
                refine W.step [(43, _), (46, _)] (Sub.cons (e3 _ rfl) (Sub.cons (e6 _ rfl) (Sub.refl _))) ?_
                have hKl' : (p.take 32).length = 32 := by rw [← hK]; exact hKl
                refine W.buildS (fs := _) [(0, 32), (32, 1)] (letC (p.take 32) (.slice a6' (p.drop 32).length c6')) zeroLetC Try.underlying36 (by kernel_rfl) (by kernel_rfl) rfl (by rw [fill_cons (us := (p.take 32).map byteV) (off := 0) rfl (by rw [List.length_map, hKl']; rfl) (by rw [List.length_map, hKl']; decide), splice_key hKl', fill_cons (us := [Value.slice a6' (p.drop 32).length c6']) (off := 32) rfl rfl (by rw [letC_length hKl']; exact Nat.le_refl _), splice_box hKl']; rfl) rfl ?_
                refine W.nil ?_
                exact At.step (Ext.refl _) ⟨a6', c6', rfl, hb6, hq6⟩
              exact trivial
            · intro L_ wq hX7 hs_ hv_
              obtain ⟨v7, e7, r7⟩ := hv_ 7 (by decide)
              obtain ⟨a7', c7', rfl, hb7, hq7⟩ := r7
              refine W.weaken (l' := [(47, _), (4, _), (8, _)]) (Sub.cons (e7 _ rfl) (Sub.cons (hs_ _ _ rfl) (Sub.cons (hs_ _ _ rfl) (Sub.nil)))) ?_
              have hKl' : (p.take 32).length = 32 := by rw [← hK]; exact hKl
              refine W.storeA (letC (p.take 32) (.slice a7' (p.drop 32).length c7')) rfl rfl ((hB4.ext hX4).ext hX7) (by rw [letC_length hKl']; rfl) (by rw [letC_length hKl']; kernel_rfl) (letC_one _ _ _ _) ?_
              intro wz hcz hBz
              refine W.assign rfl rfl ?_
              refine W.nil ?_
              refine At.thenCode ?_
              refine C.ret ?_
              -- RESULT IN A CELL
              have hKl' : (p.take 32).length = 32 := by rw [← hK]; exact hKl
              refine At.retCT Try.results23 rfl rfl (hBz.cells (o := 0)) Try.underlying36 rfl (by rw [List.drop_zero, letC_length hKl']; kernel_rfl) ?_
              rw [List.drop_zero, hK, hB, decide_eq_true hgood]
              refine ⟨a7', c7', rfl, Sl.chg hb7 hcz (fun ad e _ hk => ?_), ((hXz.ext hX4).ext hX7).news hcz fun k hk => Or.inr (by omega)⟩
              have := hq7 ad e
              have := (hB4.ext hX4).lt
              omega
end Go.Proofs.Ytkjmllohbohliaa.Let
