/- The walk of chapter 2's law of the numbers. -/
import Derived.Test.YtmnndbebnojlgaaLaw2
import Derived.Test.YtmnndbebnojlgaaShaN
import Derived.Test.YtmnndbebnojlgaaKe
namespace Go.Proofs.Ytmnndbebnojlgaa.Law2
open Go Go.RowKit Go.Proofs.Ytmnndbebnojlgaa.KW Go.Proofs.Ytmnndbebnojlgaa.Words Go.Proofs.Ytmnndbebnojlgaa.Sha Go.Proofs.Ytmnndbebnojlgaa.RSha
set_option linter.unusedVariables false
set_option linter.unusedSimpArgs false
set_option maxRecDepth 100000
theorem typed32 : ∀ (l : List Nat), Typed (List.replicate l.length .u32) (l.map u32V)
  | [] => trivial
  | x :: r => ⟨⟨_, rfl⟩, typed32 r⟩
theorem shaK_len : shaK.length = 64 := by decide
theorem ShaNumbers_walk (ao : Option Addr) (c : Nat) (xs : List UInt8) (w : World) (hS : Bs w ao c xs) (hl : xs.length ≤ 9223372036854775807) :
    Ct Try.prog 5 #[.slice ao xs.length c] w (LawOk w) := by
  refine Ct.enter [(0, .slice ao xs.length c)] Try.func5 rfl rfl rfl rfl ?_
  have hKl := shaK_len
  refine C.seq ?_
  refine C.region ?_
  refine W.assign rfl rfl ?_
  refine W.nil ?_
  refine At.thenCode ?_
  refine C.seq ?_
  refine C.region ?_
  refine W.call Try.call14 rfl (alive_ok _) rfl ?_
  rintro v9 w9 ⟨rfl, hX9⟩
  refine W.assign rfl rfl ?_
  refine W.nil ?_
  refine At.thenCode ?_
  refine C.seq ?_
  refine C.seq ?_
  refine C.region ?_
  refine W.move rfl rfl ?_
  first | refine W.notD rfl rfl ?_ | refine W.notB rfl rfl ?_
  refine W.move rfl rfl ?_
  refine W.wants rfl rfl rfl rfl ?_
  refine W.move rfl rfl ?_
  refine W.wants rfl rfl rfl rfl ?_
  refine W.lenS rfl Try.underlying23 rfl ?_
  refine W.wants rfl rfl rfl rfl ?_
  refine W.gtrI rfl rfl rfl ?_
  refine W.pickF rfl rfl rfl ?_
  refine W.nil ?_
  refine At.thenCode ?_
  first | refine C.condD rfl (fun c16 => ?_) (fun c16 => ?_) | refine C.cond rfl (fun c16 => ?_) (fun c16 => ?_)
  · refine C.seq ?_
    refine C.region ?_
    refine W.move rfl rfl ?_
    refine W.assign rfl rfl ?_
    refine W.nil ?_
    refine At.thenCode ?_
    refine C.ret ?_
    refine At.thenRet ?_
    refine At.ret1 Try.results5 rfl ?_
    first
    | exact ⟨rfl, Ext.below (((hXb.ext hXl).ext hX53).ext hX55)⟩
    | exact ⟨rfl, Ext.below hX9⟩
  · refine C.skip ?_
    refine At.thenCode ?_
    refine C.seq ?_
    refine C.region ?_
    refine W.call Try.call17 rfl (RSha.Written_ok _) rfl ?_
    rintro v19 w19 ⟨⟨a19, c19, rfl, hS19, _⟩, hX19⟩
    refine W.move rfl rfl ?_
    refine W.extract rfl rfl rfl ?_
    refine W.extract rfl rfl rfl ?_
    refine W.alloc (z := .agg (List.replicate 8 (u32V 0)).toArray) (List.replicate 8 (u32V 0)) (by kernel_rfl) rfl rfl ?_
    intro g5 w5 hg5 hX5 hB5
    refine W.assign rfl rfl ?_
    refine W.storeA (shaH.map u32V) rfl rfl hB5 rfl (by kernel_rfl) (u32_oneCell _) ?_
    intro w6 hc6 hB6
    have hX6 : Ext w19 w6 := hX5.news hc6 fun k hk => Or.inr (by omega)
    have hXa := (hX9.ext hX19).ext hX6
    have hS6 : Sl w6 a19 64 c19 1 (shaK.map u32V) := Sl.ext hS19 hX6
    refine W.nil ?_
    refine At.thenCode ?_
    refine C.seq ?_
    refine C.region ?_
    refine W.call Try.call18 rfl (ShaN.Numbers_ok _) rfl ?_
    rintro v23 w23 ⟨⟨a23, c23, rfl, hS23, _⟩, hX23⟩
    refine W.move rfl rfl ?_
    refine W.extract rfl rfl rfl ?_
    refine W.extract rfl rfl rfl ?_
    refine W.alloc (z := .agg (List.replicate 8 (u32V 0)).toArray) (List.replicate 8 (u32V 0)) (by kernel_rfl) rfl rfl ?_
    intro g7 w7 hg7 hX7 hB7
    refine W.assign rfl rfl ?_
    refine W.storeA (shaH.map u32V) rfl rfl hB7 rfl (by kernel_rfl) (u32_oneCell _) ?_
    intro w8 hc8 hB8
    have hX8 : Ext w23 w8 := hX7.news hc8 fun k hk => Or.inr (by omega)
    have hXb := (hXa.ext hX23).ext hX8
    have hS1 : Sl w8 a19 64 c19 1 (shaK.map u32V) := Sl.ext (Sl.ext hS6 hX23) hX8
    have hS2 : Sl w8 a23 64 c23 1 (shaK.map u32V) := Sl.ext hS23 hX8
    have hB6a := (hB6.ext hX23).ext hX8
    refine W.nil ?_
    refine At.thenCode ?_
    refine C.seq ?_
    refine C.seq ?_
    refine C.region ?_
    refine W.move rfl rfl ?_
    refine W.lenS rfl Try.underlying31 rfl ?_
    refine W.neqI rfl rfl rfl ?_
    refine W.eqv (bF (fun h => h rfl)) ?_
    refine W.move rfl rfl ?_
    refine W.wants rfl rfl rfl rfl ?_
    refine W.move rfl rfl ?_
    refine W.wants rfl rfl rfl rfl ?_
    refine W.lenS rfl Try.underlying31 rfl ?_
    refine W.wants rfl rfl rfl rfl ?_
    refine W.neqI rfl rfl rfl ?_
    refine W.eqv (bF (fun h => h rfl)) ?_
    refine W.pickF rfl rfl rfl ?_
    refine W.move rfl rfl ?_
    refine W.wants rfl rfl rfl rfl ?_
    refine W.loadA rfl (hB6a.cells (o := 0)) Try.underlying33 rfl (by kernel_rfl) rfl ?_
    refine W.wants rfl rfl rfl rfl ?_
    refine W.loadA rfl (hB8.cells (o := 0)) Try.underlying33 rfl (by kernel_rfl) rfl ?_
    refine W.wants rfl rfl rfl rfl ?_
    refine W.neqP (ks := List.replicate 8 .u32) (by kernel_rfl) (by kernel_rfl) rfl rfl (typed32 shaH) (typed32 shaH) (by kernel_rfl) rfl ?_
    refine W.eqv (bF (fun h => h rfl)) ?_
    refine W.pickF rfl rfl rfl ?_
    refine W.nil ?_
    refine At.thenCode ?_
    refine C.condF rfl ?_
    refine C.skip ?_
    refine At.thenCode ?_
    refine C.seq ?_
    refine C.seq ?_
    refine C.region ?_
    refine W.assign rfl rfl ?_
    refine W.nil ?_
    refine At.thenCode ?_
    refine C.block ?_
    refine C.loop (X := Nat) (fun x_ => [(0, .slice ao xs.length c), (4, .slice a19 64 c19), (6, .slice a23 64 c23), (8, .int .i64 (x_ : Int))]) (fun x_ w1 => x_ ≤ 64 ∧ Ext w8 w1) (fun x_ => 64 - x_) (0) (Sub.cons (rfl) (Sub.cons (rfl) (Sub.cons (rfl) (Sub.cons (rfl) (Sub.nil))))) ?start1 ?_
    case start1 =>
      show (0) ≤ 64 ∧ Ext w8 _
      exact ⟨by omega, Ext.refl _⟩
    rintro i w1 hI_
    replace hI_ : i ≤ 64 ∧ Ext w8 w1 := hI_
    obtain ⟨hi, hXl⟩ := hI_
    refine C.weaken (l' := [(0, .slice ao xs.length c), (4, .slice a19 64 c19), (6, .slice a23 64 c23), (8, .int .i64 (i : Int))]) (Sub.cons (rfl) (Sub.cons (rfl) (Sub.cons (rfl) (Sub.cons (rfl) (Sub.nil))))) ?_
    refine C.seq ?_
    refine C.seq ?_
    refine C.region ?_
    refine W.move rfl rfl ?_
    refine W.lssI rfl rfl rfl ?_
    refine W.nil ?_
    refine At.thenCode ?_
    first | refine C.condD rfl (fun c40 => ?_) (fun c40 => ?_) | refine C.cond rfl (fun c40 => ?_) (fun c40 => ?_)
    · have hlt : i < shaK.length := by omega
      obtain ⟨q, hq⟩ : ∃ q, q = shaK[i] := ⟨_, rfl⟩
      have hgq : (shaK.map u32V)[i]? = some (u32V q) := by rw [hq, List.getElem?_map, List.getElem?_eq_getElem hlt]; rfl
      refine C.skip ?_
      refine At.thenCode ?_
      refine C.seq ?_
      refine C.block ?_
      refine C.seq ?_
      refine C.regionAny 9 ((fun v w => v = .slice a19 64 c19) :: (fun v w => v = .int .i64 (i : Int)) :: (fun v w => ∃ ad, v = .pointer (some ad) ∧ w.cell? ad = some (u32V q)) :: (fun v w => v = .int .u32 (q : Int)) :: (fun v w => v = .slice a23 64 c23) :: (fun v w => v = .int .i64 (i : Int)) :: (fun v w => ∃ ad, v = .pointer (some ad) ∧ w.cell? ad = some (u32V q)) :: (fun v w => v = .int .u32 (q : Int)) :: (fun v w => v = .bool false) :: []) [(0, .slice ao xs.length c), (4, .slice a19 64 c19), (6, .slice a23 64 c23), (8, .int .i64 (i : Int))] [] (Sub.cons (rfl) (Sub.cons (rfl) (Sub.cons (rfl) (Sub.cons (rfl) (Sub.nil))))) (Sub.nil) (Sub.cons (rfl) (Sub.cons (rfl) (Sub.cons (rfl) (Sub.cons (rfl) (Sub.nil))))) (by kernel_rfl) rfl rfl rfl (And.intro (fun _ _ _ h _ => h) (And.intro (fun _ _ _ h _ => h) (And.intro (fun _ _ _ h g => by obtain ⟨ad, e, h1⟩ := h; exact ⟨ad, e, Chg.cell g h1 fun c => c⟩) (And.intro (fun _ _ _ h _ => h) (And.intro (fun _ _ _ h _ => h) (And.intro (fun _ _ _ h _ => h) (And.intro (fun _ _ _ h g => by obtain ⟨ad, e, h1⟩ := h; exact ⟨ad, e, Chg.cell g h1 fun c => c⟩) (And.intro (fun _ _ _ h _ => h) (And.intro (fun _ _ _ h _ => h) (trivial)))))))))) ?_ ?_
      · refine And.intro ?_ ?_
        · intro L_ wr hX_ hs_ hf_ hd_
          refine W.step [(4, _)] (Sub.cons (hs_ _ _ rfl) (Sub.refl _)) ?_
          refine W.move rfl rfl ?_
          refine W.nil ?_
          exact At.step (Ext.refl _) rfl
        refine And.intro ?_ ?_
        · intro L_ wr hX_ hs_ hf_ hd_
          refine W.step [(8, _)] (Sub.cons (hs_ _ _ rfl) (Sub.refl _)) ?_
          refine W.move rfl rfl ?_
          refine W.nil ?_
          exact At.step (Ext.refl _) rfl
        refine And.intro ?_ ?_
        · intro L_ wr hX_ hs_ hf_ hd_
          obtain ⟨v0, e0, r0⟩ := hd_ 0 rfl
          obtain rfl : (.slice a19 64 c19 : Value) = v0 := Eq.symm r0
          obtain ⟨v1, e1, r1⟩ := hd_ 1 rfl
          obtain rfl : (.int .i64 (i : Int) : Value) = v1 := Eq.symm r1
          refine W.step [(43, _), (44, _)] (Sub.cons (e0 _ rfl) (Sub.cons (e1 _ rfl) (Sub.refl _))) ?_
          refine W.indexS (i := (i : Int)) X32 Try.underlying31 rfl (Sl.ext (Sl.ext hS1 hXl) hX_) rfl ⟨by omega, by omega⟩ rfl ?_
          intro ad45 _ _ hq45
          have hc45 := hq45 0 (u32V q) (by rw [List.getElem?_drop, Int.toNat_natCast, Nat.mul_one, Nat.add_zero]; exact hgq)
          rw [add_zero'] at hc45
          refine W.nil ?_
          exact At.step (Ext.refl _) ⟨ad45, rfl, hc45⟩
        refine And.intro ?_ ?_
        · intro L_ wr hX_ hs_ hf_ hd_
          obtain ⟨v2, e2, r2⟩ := hd_ 2 rfl
          obtain ⟨ad2, rfl, hc2⟩ := r2
          refine W.step [(45, _)] (Sub.cons (e2 _ rfl) (Sub.refl _)) ?_
          refine W.load (v := .int .u32 (q : Int)) rfl Try.underlying32 rfl hc2 rfl ?_
          refine W.nil ?_
          exact At.step (Ext.refl _) rfl
        refine And.intro ?_ ?_
        · intro L_ wr hX_ hs_ hf_ hd_
          refine W.step [(6, _)] (Sub.cons (hs_ _ _ rfl) (Sub.refl _)) ?_
          refine W.move rfl rfl ?_
          refine W.nil ?_
          exact At.step (Ext.refl _) rfl
        refine And.intro ?_ ?_
        · intro L_ wr hX_ hs_ hf_ hd_
          refine W.step [(8, _)] (Sub.cons (hs_ _ _ rfl) (Sub.refl _)) ?_
          refine W.move rfl rfl ?_
          refine W.nil ?_
          exact At.step (Ext.refl _) rfl
        refine And.intro ?_ ?_
        · intro L_ wr hX_ hs_ hf_ hd_
          obtain ⟨v4, e4, r4⟩ := hd_ 4 rfl
          obtain rfl : (.slice a23 64 c23 : Value) = v4 := Eq.symm r4
          obtain ⟨v5, e5, r5⟩ := hd_ 5 rfl
          obtain rfl : (.int .i64 (i : Int) : Value) = v5 := Eq.symm r5
          refine W.step [(47, _), (48, _)] (Sub.cons (e4 _ rfl) (Sub.cons (e5 _ rfl) (Sub.refl _))) ?_
          refine W.indexS (i := (i : Int)) X32 Try.underlying31 rfl (Sl.ext (Sl.ext hS2 hXl) hX_) rfl ⟨by omega, by omega⟩ rfl ?_
          intro ad49 _ _ hq49
          have hc49 := hq49 0 (u32V q) (by rw [List.getElem?_drop, Int.toNat_natCast, Nat.mul_one, Nat.add_zero]; exact hgq)
          rw [add_zero'] at hc49
          refine W.nil ?_
          exact At.step (Ext.refl _) ⟨ad49, rfl, hc49⟩
        refine And.intro ?_ ?_
        · intro L_ wr hX_ hs_ hf_ hd_
          obtain ⟨v6, e6, r6⟩ := hd_ 6 rfl
          obtain ⟨ad6, rfl, hc6'⟩ := r6
          refine W.step [(49, _)] (Sub.cons (e6 _ rfl) (Sub.refl _)) ?_
          refine W.load (v := .int .u32 (q : Int)) rfl Try.underlying32 rfl hc6' rfl ?_
          refine W.nil ?_
          exact At.step (Ext.refl _) rfl
        refine And.intro ?_ ?_
        · intro L_ wr hX_ hs_ hf_ hd_
          obtain ⟨v3, e3, r3⟩ := hd_ 3 rfl
          obtain rfl : (.int .u32 (q : Int) : Value) = v3 := Eq.symm r3
          obtain ⟨v7, e7, r7⟩ := hd_ 7 rfl
          obtain rfl : (.int .u32 (q : Int) : Value) = v7 := Eq.symm r7
          refine W.step [(46, _), (50, _)] (Sub.cons (e3 _ rfl) (Sub.cons (e7 _ rfl) (Sub.refl _))) ?_
          refine W.neqU rfl rfl rfl ?_
          refine W.eqv (bF (fun h => h rfl)) ?_
          refine W.nil ?_
          exact At.step (Ext.refl _) rfl
        exact trivial
      · intro L_ wr hX11 hs_ hv_
        obtain ⟨v8, e8, r8⟩ := hv_ 8 (by decide)
        obtain rfl : (.bool false : Value) = v8 := Eq.symm r8
        refine W.weaken (l' := [(51, _), (0, _), (4, _), (6, _), (8, _)]) (Sub.cons (e8 _ rfl) (Sub.cons (hs_ _ _ rfl) (Sub.cons (hs_ _ _ rfl) (Sub.cons (hs_ _ _ rfl) (Sub.cons (hs_ _ _ rfl) (Sub.nil)))))) ?_
        refine W.nil ?_
        refine At.thenCode ?_
        refine C.condF rfl ?_
        refine C.skip ?_
        refine At.blockNormal ?_
        refine At.thenCode ?_
        refine C.region ?_
        refine W.move rfl rfl ?_
        first | refine W.addI rfl rfl (by omega) rfl ?_ | refine W.addW rfl rfl rfl ?_
        refine W.assign rfl rfl ?_
        refine W.nil ?_
        refine At.thenRound (i + 1) (Sub.cons (rfl) (Sub.cons (rfl) (Sub.cons (rfl) (Sub.cons (look_eq rfl (iV (by omega))) (Sub.nil))))) (show (i + 1) ≤ 64 ∧ Ext w8 _ from ?_) (show 64 - (i + 1) < 64 - i from ?_)
        · exact ⟨by omega, hXl.ext hX11⟩
        · omega
    · refine C.exit ?_
      refine At.thenExit ?_
      refine At.thenExit ?_
      refine At.blockSelf ?_
      refine At.thenCode ?_
      refine C.seq ?_
      refine C.region ?_
      refine W.move rfl rfl ?_
      refine W.call Try.call15 rfl (Sum_ok _ _ _ _ ((hS.ext hXb).ext hXl) (by omega)) rfl ?_
      rintro v53 w53 ⟨rfl, hX53⟩
      refine W.move rfl rfl ?_
      refine W.call Try.call16 rfl (RSha_ok _ _ _ _ (((hS.ext hXb).ext hXl).ext hX53) (by omega)) rfl ?_
      rintro v55 w55 ⟨rfl, hX55⟩
      refine W.eqlKey (a := shaV xs) (b := shaV xs) Try.underlying25 Try.underlying5 (by kernel_rfl) rfl rfl (shaV_length _) (shaV_length _) (by kernel_rfl) rfl ?_
      refine W.eqv (bT (rfl)) ?_
      refine W.assign rfl rfl ?_
      refine W.nil ?_
      refine At.thenCode ?_
      refine C.ret ?_
      refine At.ret1 Try.results5 rfl ?_
      first
      | exact ⟨rfl, Ext.below (((hXb.ext hXl).ext hX53).ext hX55)⟩
      | exact ⟨rfl, Ext.below hX9⟩
end Go.Proofs.Ytmnndbebnojlgaa.Law2
