/- The walk of the law DeriveBegins. -/
import Derived.Test.YtmnndbebnojlgaaLaw4
namespace Go.Proofs.Ytmnndbebnojlgaa.Law4
open Go Go.RowKit Go.Proofs.Ytmnndbebnojlgaa.KW Go.Proofs.Ytmnndbebnojlgaa.Words Go.Proofs.Ytmnndbebnojlgaa.Sha Go.Proofs.Ytmnndbebnojlgaa.RSha Go.Proofs.Ytmnndbebnojlgaa.Mac Go.Proofs.Ytmnndbebnojlgaa.Derive
set_option linter.unusedVariables false
set_option linter.unusedSimpArgs false
set_option maxRecDepth 100000
theorem DeriveBegins_walk (key info : List UInt8) (n m : Int) (w : World) (hk : key.length = 32) (hln : info.length ≤ 9223372036854775807) (hn : -9223372036854775808 ≤ n ∧ n ≤ 9223372036854775807) (hm : -9223372036854775808 ≤ m ∧ m ≤ 9223372036854775807) :
    Ct Try.prog 13 #[keyV key, strV info, .int .i64 n, .int .i64 m] w (LawOk w) := by
  refine Ct.enter [(0, keyV key), (1, strV info), (2, .int .i64 n), (3, .int .i64 m)] Try.func13 rfl rfl rfl rfl ?_
  have hns : (⟨info.toArray⟩ : ByteArray).size = info.length := by simp [ByteArray.size]
  refine C.seq ?_
  refine C.region ?_
  refine W.box (key.map byteV) rfl rfl rfl ?_
  intro g4 w4 hg4 hX4 hB4
  refine W.assign rfl rfl ?_
  refine W.nil ?_
  refine At.thenCode ?_
  refine C.seq ?_
  refine C.region ?_
  refine W.call Try.call25 rfl (alive_ok _) rfl ?_
  rintro v13 w13 ⟨rfl, hX13⟩
  have hB4 := hB4.ext hX13
  refine W.assign rfl rfl ?_
  refine W.nil ?_
  refine At.thenCode ?_
  refine C.seq ?_
  refine C.seq ?_
  refine C.region ?_
  refine W.move rfl rfl ?_
  first | refine W.notD rfl rfl ?_ | refine W.notB rfl rfl ?_
  refine W.move rfl rfl ?_
  refine W.wants rfl rfl rfl rfl ?_
  refine W.move rfl rfl ?_
  refine W.wants rfl rfl rfl rfl ?_
  refine W.lenStr rfl Try.underlying9 rfl ?_
  refine W.wants rfl rfl rfl rfl ?_
  refine W.gtrI rfl rfl rfl ?_
  refine W.pickF rfl rfl rfl ?_
  refine W.move rfl rfl ?_
  first | refine W.splitD (fun g21 => ?_) (fun g21 => ?_) | refine W.splitB (fun g21 => ?_) (fun g21 => ?_)
  · refine W.skips rfl rfl rfl rfl rfl rfl ?_
    refine W.skips rfl rfl rfl rfl rfl rfl ?_
    refine W.pickT rfl rfl rfl ?_
    refine W.move rfl rfl ?_
    refine W.skips rfl rfl rfl rfl rfl rfl ?_
    refine W.skips rfl rfl rfl rfl rfl rfl ?_
    refine W.pickT rfl rfl rfl ?_
    refine W.move rfl rfl ?_
    refine W.skips rfl rfl rfl rfl rfl rfl ?_
    refine W.skips rfl rfl rfl rfl rfl rfl ?_
    refine W.pickT rfl rfl rfl ?_
    refine W.move rfl rfl ?_
    refine W.skips rfl rfl rfl rfl rfl rfl ?_
    refine W.skips rfl rfl rfl rfl rfl rfl ?_
    refine W.skips rfl rfl rfl rfl rfl rfl ?_
    refine W.pickT rfl rfl rfl ?_
    refine W.nil ?_
    refine At.thenCode ?_
    refine C.condT rfl ?_
    refine C.seq ?_
    refine C.region ?_
    refine W.move rfl rfl ?_
    refine W.assign rfl rfl ?_
    refine W.nil ?_
    refine At.thenCode ?_
    refine C.ret ?_
    refine At.thenRet ?_
    refine At.ret1 Try.results13 rfl ?_
    first | exact ⟨rfl, Ext.below ((hX6'.ext hX49).ext hX11)⟩ | exact ⟨rfl, Ext.below (hX46'.ext hX6)⟩ | exact ⟨rfl, Ext.below (hX4.ext hX13)⟩
  · refine W.wants rfl rfl rfl rfl ?_
    refine W.move rfl rfl ?_
    refine W.wants rfl rfl rfl rfl ?_
    refine W.lssI rfl rfl rfl ?_
    refine W.pickF rfl rfl rfl ?_
    refine W.move rfl rfl ?_
    first | refine W.splitD (fun g25 => ?_) (fun g25 => ?_) | refine W.splitB (fun g25 => ?_) (fun g25 => ?_)
    · refine W.skips rfl rfl rfl rfl rfl rfl ?_
      refine W.skips rfl rfl rfl rfl rfl rfl ?_
      refine W.pickT rfl rfl rfl ?_
      refine W.move rfl rfl ?_
      refine W.skips rfl rfl rfl rfl rfl rfl ?_
      refine W.skips rfl rfl rfl rfl rfl rfl ?_
      refine W.pickT rfl rfl rfl ?_
      refine W.move rfl rfl ?_
      refine W.skips rfl rfl rfl rfl rfl rfl ?_
      refine W.skips rfl rfl rfl rfl rfl rfl ?_
      refine W.skips rfl rfl rfl rfl rfl rfl ?_
      refine W.pickT rfl rfl rfl ?_
      refine W.nil ?_
      refine At.thenCode ?_
      refine C.condT rfl ?_
      refine C.seq ?_
      refine C.region ?_
      refine W.move rfl rfl ?_
      refine W.assign rfl rfl ?_
      refine W.nil ?_
      refine At.thenCode ?_
      refine C.ret ?_
      refine At.thenRet ?_
      refine At.ret1 Try.results13 rfl ?_
      first | exact ⟨rfl, Ext.below ((hX6'.ext hX49).ext hX11)⟩ | exact ⟨rfl, Ext.below (hX46'.ext hX6)⟩ | exact ⟨rfl, Ext.below (hX4.ext hX13)⟩
    · refine W.wants rfl rfl rfl rfl ?_
      refine W.move rfl rfl ?_
      refine W.wants rfl rfl rfl rfl ?_
      refine W.gtrI rfl rfl rfl ?_
      refine W.pickF rfl rfl rfl ?_
      refine W.move rfl rfl ?_
      first | refine W.splitD (fun g29 => ?_) (fun g29 => ?_) | refine W.splitB (fun g29 => ?_) (fun g29 => ?_)
      · refine W.skips rfl rfl rfl rfl rfl rfl ?_
        refine W.skips rfl rfl rfl rfl rfl rfl ?_
        refine W.pickT rfl rfl rfl ?_
        refine W.move rfl rfl ?_
        refine W.skips rfl rfl rfl rfl rfl rfl ?_
        refine W.skips rfl rfl rfl rfl rfl rfl ?_
        refine W.skips rfl rfl rfl rfl rfl rfl ?_
        refine W.pickT rfl rfl rfl ?_
        refine W.nil ?_
        refine At.thenCode ?_
        refine C.condT rfl ?_
        refine C.seq ?_
        refine C.region ?_
        refine W.move rfl rfl ?_
        refine W.assign rfl rfl ?_
        refine W.nil ?_
        refine At.thenCode ?_
        refine C.ret ?_
        refine At.thenRet ?_
        refine At.ret1 Try.results13 rfl ?_
        first | exact ⟨rfl, Ext.below ((hX6'.ext hX49).ext hX11)⟩ | exact ⟨rfl, Ext.below (hX46'.ext hX6)⟩ | exact ⟨rfl, Ext.below (hX4.ext hX13)⟩
      · refine W.wants rfl rfl rfl rfl ?_
        refine W.move rfl rfl ?_
        refine W.wants rfl rfl rfl rfl ?_
        refine W.lssI rfl rfl rfl ?_
        refine W.pickF rfl rfl rfl ?_
        refine W.move rfl rfl ?_
        first | refine W.splitD (fun g33 => ?_) (fun g33 => ?_) | refine W.splitB (fun g33 => ?_) (fun g33 => ?_)
        · refine W.skips rfl rfl rfl rfl rfl rfl ?_
          refine W.skips rfl rfl rfl rfl rfl rfl ?_
          refine W.skips rfl rfl rfl rfl rfl rfl ?_
          refine W.pickT rfl rfl rfl ?_
          refine W.nil ?_
          refine At.thenCode ?_
          refine C.condT rfl ?_
          refine C.seq ?_
          refine C.region ?_
          refine W.move rfl rfl ?_
          refine W.assign rfl rfl ?_
          refine W.nil ?_
          refine At.thenCode ?_
          refine C.ret ?_
          refine At.thenRet ?_
          refine At.ret1 Try.results13 rfl ?_
          first | exact ⟨rfl, Ext.below ((hX6'.ext hX49).ext hX11)⟩ | exact ⟨rfl, Ext.below (hX46'.ext hX6)⟩ | exact ⟨rfl, Ext.below (hX4.ext hX13)⟩
        · refine W.wants rfl rfl rfl rfl ?_
          refine W.move rfl rfl ?_
          refine W.wants rfl rfl rfl rfl ?_
          refine W.move rfl rfl ?_
          refine W.wants rfl rfl rfl rfl ?_
          refine W.gtrI rfl rfl rfl ?_
          refine W.pickF rfl rfl rfl ?_
          refine W.nil ?_
          refine At.thenCode ?_
          first | refine C.condD rfl (fun c37 => ?_) (fun c37 => ?_) | refine C.cond rfl (fun c37 => ?_) (fun c37 => ?_)
          · refine C.seq ?_
            refine C.region ?_
            refine W.move rfl rfl ?_
            refine W.assign rfl rfl ?_
            refine W.nil ?_
            refine At.thenCode ?_
            refine C.ret ?_
            refine At.thenRet ?_
            refine At.ret1 Try.results13 rfl ?_
            first | exact ⟨rfl, Ext.below ((hX6'.ext hX49).ext hX11)⟩ | exact ⟨rfl, Ext.below (hX46'.ext hX6)⟩ | exact ⟨rfl, Ext.below (hX4.ext hX13)⟩
          · refine C.skip ?_
            refine At.thenCode ?_
            refine C.seq ?_
            refine C.region ?_
            refine W.loadA rfl (hB4.cells (o := 0)) Try.underlying25 rfl (by rw [List.drop_zero, List.length_map, hk]; kernel_rfl) rfl ?_
            refine W.move rfl rfl ?_
            refine W.move rfl rfl ?_
            refine W.call Try.call26 rfl (Derive.Expand_ok key info n _ hk hn (by omega)) rfl ?_
            rintro v42 w42 ⟨⟨ao42, c42, rfl, hS42, _⟩, hX42⟩
            have hB4 := hB4.ext hX42
            refine W.assign rfl rfl ?_
            refine W.nil ?_
            refine At.thenCode ?_
            refine C.seq ?_
            refine C.region ?_
            refine W.loadA rfl (hB4.cells (o := 0)) Try.underlying25 rfl (by rw [List.drop_zero, List.length_map, hk]; kernel_rfl) rfl ?_
            refine W.move rfl rfl ?_
            refine W.move rfl rfl ?_
            refine W.call Try.call26 rfl (Derive.Expand_ok key info m _ hk hm (by omega)) rfl ?_
            rintro v46 w46 ⟨⟨ao46, c46, rfl, hS46, _⟩, hX46⟩
            have hB4 := hB4.ext hX46
            have hS42 := hS42.ext hX46
            have hX46' : Ext w w46 := ((hX4.ext hX13).ext hX42).ext hX46
            have hl1 : (expandV key info n).length = n.toNat := expandV_length (by omega) (by omega)
            have hl2 : (expandV key info m).length = m.toNat := expandV_length (by omega) (by omega)
            have htk : (expandV key info n).take m.toNat = expandV key info m := expandV_take (by omega) (by omega) (by omega)
            have hf1 : 64 ≤ n → (expandV key info n).take 32 = blkT key info 1 := fun h => expandV_first (by omega) (by omega)
            have hf2 : 64 ≤ n → ((expandV key info n).drop 32).take 32 = blkT key info 2 := fun h => expandV_second h (by omega)
            obtain ⟨E, hE⟩ : ∃ E, E = expandV key info n := ⟨_, rfl⟩
            obtain ⟨F, hF⟩ : ∃ F, F = expandV key info m := ⟨_, rfl⟩
            rw [← hE] at hS42 hl1 htk hf1 hf2 ⊢
            rw [← hF] at hS46 hl2 htk ⊢
            refine W.assign rfl rfl ?_
            refine W.nil ?_
            refine At.thenCode ?_
            refine C.seq ?_
            refine C.seq ?_
            refine C.regionAny 18 ((fun v w => v = .slice ao42 E.length c42) :: (fun v w => v = .int .i64 (E.length : Int)) :: (fun v w => v = .int .i64 n) :: (fun v w => v = .bool false) :: (fun v w => v = .bool false) :: (fun v w => v = .slice ao46 F.length c46) :: (fun v w => v = .int .i64 (F.length : Int)) :: (fun v w => v = .int .i64 m) :: (fun v w => v = .bool false) :: (fun v w => v = .bool false) :: (fun v w => v = .bool false) :: (fun v w => v = .slice ao42 E.length c42) :: (fun v w => v = .int .i64 m) :: (fun v w => Rep w v F) :: (fun v w => v = strV F) :: (fun v w => v = .slice ao46 F.length c46) :: (fun v w => v = strV F) :: (fun v w => v = .bool false) :: []) [(1, strV info), (2, .int .i64 n), (3, .int .i64 m), (4, .pointer (some ⟨g4, 0, none⟩)), (10, .slice ao42 E.length c42), (11, .slice ao46 F.length c46)] [] (Sub.cons (rfl) (Sub.cons (rfl) (Sub.cons (rfl) (Sub.cons (rfl) (Sub.cons (rfl) (Sub.cons (rfl) (Sub.nil))))))) (Sub.nil) (Sub.cons (rfl) (Sub.cons (rfl) (Sub.cons (rfl) (Sub.cons (rfl) (Sub.cons (rfl) (Sub.cons (rfl) (Sub.nil))))))) (by kernel_rfl) rfl rfl rfl (And.intro (fun _ _ _ h _ => h) (And.intro (fun _ _ _ h _ => h) (And.intro (fun _ _ _ h _ => h) (And.intro (fun _ _ _ h _ => h) (And.intro (fun _ _ _ h _ => h) (And.intro (fun _ _ _ h _ => h) (And.intro (fun _ _ _ h _ => h) (And.intro (fun _ _ _ h _ => h) (And.intro (fun _ _ _ h _ => h) (And.intro (fun _ _ _ h _ => h) (And.intro (fun _ _ _ h _ => h) (And.intro (fun _ _ _ h _ => h) (And.intro (fun _ _ _ h _ => h) (And.intro (fun _ _ _ h g => h.ext g) (And.intro (fun _ _ _ h _ => h) (And.intro (fun _ _ _ h _ => h) (And.intro (fun _ _ _ h _ => h) (And.intro (fun _ _ _ h _ => h) (trivial))))))))))))))))))) ?_ ?_
            · refine And.intro ?_ ?_
              · intro L_ w47 hX_ hs_ hf_ hd_
                refine W.step [(10, _)] (Sub.cons (hs_ _ _ rfl) (Sub.refl _)) ?_
                refine W.move rfl rfl ?_
                refine W.nil ?_
                exact At.step (Ext.refl _) rfl
              refine And.intro ?_ ?_
              · intro L_ w47 hX_ hs_ hf_ hd_
                obtain ⟨v0, e0, r0⟩ := hd_ 0 rfl
                obtain rfl : (.slice ao42 E.length c42 : Value) = v0 := Eq.symm r0
                refine W.step [(47, _)] (Sub.cons e0 (Sub.refl _)) ?_
                refine W.lenS rfl Try.underlying23 rfl ?_
                refine W.nil ?_
                exact At.step (Ext.refl _) rfl
              refine And.intro ?_ ?_
              · intro L_ w47 hX_ hs_ hf_ hd_
                refine W.step [(2, _)] (Sub.cons (hs_ _ _ rfl) (Sub.refl _)) ?_
                refine W.move rfl rfl ?_
                refine W.nil ?_
                exact At.step (Ext.refl _) rfl
              refine And.intro ?_ ?_
              · intro L_ w47 hX_ hs_ hf_ hd_
                obtain ⟨v1, e1, r1⟩ := hd_ 1 rfl
                obtain rfl : (.int .i64 (E.length : Int) : Value) = v1 := Eq.symm r1
                obtain ⟨v2, e2, r2⟩ := hd_ 2 rfl
                obtain rfl : (.int .i64 n : Value) = v2 := Eq.symm r2
                refine W.step [(48, _), (49, _)] (Sub.cons e1 (Sub.cons e2 (Sub.refl _))) ?_
                refine W.neqI rfl rfl rfl ?_
                refine W.eqv (bF (by omega)) ?_
                refine W.nil ?_
                exact At.step (Ext.refl _) rfl
              refine And.intro ?_ ?_
              · intro L_ w47 hX_ hs_ hf_ hd_
                obtain ⟨v3, e3, r3⟩ := hd_ 3 rfl
                obtain rfl : (.bool false : Value) = v3 := Eq.symm r3
                refine W.step [(50, _)] (Sub.cons e3 (Sub.refl _)) ?_
                refine W.move rfl rfl ?_
                refine W.nil ?_
                exact At.step (Ext.refl _) rfl
              refine And.intro ?_ ?_
              · intro L_ w47 hX_ hs_ hf_ hd_
                obtain ⟨v4, e4, r4⟩ := hd_ 4 rfl
                obtain rfl : (.bool false : Value) = v4 := Eq.symm r4
                refine W.step [(11, _), (51, _)] (Sub.cons (hs_ _ _ rfl) (Sub.cons e4 (Sub.refl _))) ?_
                refine W.wants rfl rfl rfl rfl ?_
                refine W.move rfl rfl ?_
                refine W.nil ?_
                exact At.step (Ext.refl _) rfl
              refine And.intro ?_ ?_
              · intro L_ w47 hX_ hs_ hf_ hd_
                obtain ⟨v5, e5, r5⟩ := hd_ 5 rfl
                obtain rfl : (.slice ao46 F.length c46 : Value) = v5 := Eq.symm r5
                obtain ⟨v4, e4, r4⟩ := hd_ 4 rfl
                obtain rfl : (.bool false : Value) = v4 := Eq.symm r4
                refine W.step [(52, _), (51, _)] (Sub.cons e5 (Sub.cons e4 (Sub.refl _))) ?_
                refine W.wants rfl rfl rfl rfl ?_
                refine W.lenS rfl Try.underlying23 rfl ?_
                refine W.nil ?_
                exact At.step (Ext.refl _) rfl
              refine And.intro ?_ ?_
              · intro L_ w47 hX_ hs_ hf_ hd_
                obtain ⟨v4, e4, r4⟩ := hd_ 4 rfl
                obtain rfl : (.bool false : Value) = v4 := Eq.symm r4
                refine W.step [(3, _), (51, _)] (Sub.cons (hs_ _ _ rfl) (Sub.cons e4 (Sub.refl _))) ?_
                refine W.wants rfl rfl rfl rfl ?_
                refine W.move rfl rfl ?_
                refine W.nil ?_
                exact At.step (Ext.refl _) rfl
              refine And.intro ?_ ?_
              · intro L_ w47 hX_ hs_ hf_ hd_
                obtain ⟨v6, e6, r6⟩ := hd_ 6 rfl
                obtain rfl : (.int .i64 (F.length : Int) : Value) = v6 := Eq.symm r6
                obtain ⟨v7, e7, r7⟩ := hd_ 7 rfl
                obtain rfl : (.int .i64 m : Value) = v7 := Eq.symm r7
                obtain ⟨v4, e4, r4⟩ := hd_ 4 rfl
                obtain rfl : (.bool false : Value) = v4 := Eq.symm r4
                refine W.step [(53, _), (54, _), (51, _)] (Sub.cons e6 (Sub.cons e7 (Sub.cons e4 (Sub.refl _)))) ?_
                refine W.wants rfl rfl rfl rfl ?_
                refine W.neqI rfl rfl rfl ?_
                refine W.eqv (bF (by omega)) ?_
                refine W.nil ?_
                exact At.step (Ext.refl _) rfl
              refine And.intro ?_ ?_
              · intro L_ w47 hX_ hs_ hf_ hd_
                obtain ⟨v4, e4, r4⟩ := hd_ 4 rfl
                obtain rfl : (.bool false : Value) = v4 := Eq.symm r4
                obtain ⟨v8, e8, r8⟩ := hd_ 8 rfl
                obtain rfl : (.bool false : Value) = v8 := Eq.symm r8
                refine W.step [(51, _), (55, _)] (Sub.cons e4 (Sub.cons e8 (Sub.refl _))) ?_
                refine W.pickF rfl rfl rfl ?_
                refine W.nil ?_
                exact At.step (Ext.refl _) rfl
              refine And.intro ?_ ?_
              · intro L_ w47 hX_ hs_ hf_ hd_
                obtain ⟨v9, e9, r9⟩ := hd_ 9 rfl
                obtain rfl : (.bool false : Value) = v9 := Eq.symm r9
                refine W.step [(56, _)] (Sub.cons e9 (Sub.refl _)) ?_
                refine W.move rfl rfl ?_
                refine W.nil ?_
                exact At.step (Ext.refl _) rfl
              refine And.intro ?_ ?_
              · intro L_ w47 hX_ hs_ hf_ hd_
                obtain ⟨v10, e10, r10⟩ := hd_ 10 rfl
                obtain rfl : (.bool false : Value) = v10 := Eq.symm r10
                refine W.step [(10, _), (57, _)] (Sub.cons (hs_ _ _ rfl) (Sub.cons e10 (Sub.refl _))) ?_
                refine W.wants rfl rfl rfl rfl ?_
                refine W.move rfl rfl ?_
                refine W.nil ?_
                exact At.step (Ext.refl _) rfl
              refine And.intro ?_ ?_
              · intro L_ w47 hX_ hs_ hf_ hd_
                obtain ⟨v10, e10, r10⟩ := hd_ 10 rfl
                obtain rfl : (.bool false : Value) = v10 := Eq.symm r10
                refine W.step [(3, _), (57, _)] (Sub.cons (hs_ _ _ rfl) (Sub.cons e10 (Sub.refl _))) ?_
                refine W.wants rfl rfl rfl rfl ?_
                refine W.move rfl rfl ?_
                refine W.nil ?_
                exact At.step (Ext.refl _) rfl
              refine And.intro ?_ ?_
              · intro L_ w47 hX_ hs_ hf_ hd_
                obtain ⟨v11, e11, r11⟩ := hd_ 11 rfl
                obtain rfl : (.slice ao42 E.length c42 : Value) = v11 := Eq.symm r11
                obtain ⟨v12, e12, r12⟩ := hd_ 12 rfl
                obtain rfl : (.int .i64 m : Value) = v12 := Eq.symm r12
                obtain ⟨v10, e10, r10⟩ := hd_ 10 rfl
                obtain rfl : (.bool false : Value) = v10 := Eq.symm r10
                refine W.step [(58, _), (59, _), (57, _)] (Sub.cons e11 (Sub.cons e12 (Sub.cons e10 (Sub.refl _)))) ?_
                refine W.wants rfl rfl rfl rfl ?_
                refine W.slice (lo := 0) (hi := m.toNat) E8 Try.underlying23 rfl (Sl.ext hS42 hX_) (.inl ⟨rfl, rfl⟩) (.inr ⟨_, .i64, rfl, look_eq rfl (by rw [Int.toNat_of_nonneg (by omega)])⟩) (by omega) (by omega) rfl ?_
                intro ao60 c60 hS60 _
                refine W.nil ?_
                exact At.step (Ext.refl _) ⟨_, _, by rw [hl2]; rfl, by show Sl _ _ _ _ _ _; rw [hl2, ← htk, List.map_take]; simpa using hS60⟩
              refine And.intro ?_ ?_
              · intro L_ w47 hX_ hs_ hf_ hd_
                obtain ⟨v13, e13, r13⟩ := hd_ 13 rfl
                obtain ⟨ao60, c60, rfl, hS60⟩ := r13
                obtain ⟨v10, e10, r10⟩ := hd_ 10 rfl
                obtain rfl : (.bool false : Value) = v10 := Eq.symm r10
                refine W.step [(60, _), (57, _)] (Sub.cons e13 (Sub.cons e10 (Sub.refl _))) ?_
                refine W.wants rfl rfl rfl rfl ?_
                refine W.bytesStr Try.underlying23 Try.underlying5 Try.underlying9 rfl hS60 rfl ?_
                refine W.nil ?_
                exact At.step (Ext.refl _) rfl
              refine And.intro ?_ ?_
              · intro L_ w47 hX_ hs_ hf_ hd_
                obtain ⟨v10, e10, r10⟩ := hd_ 10 rfl
                obtain rfl : (.bool false : Value) = v10 := Eq.symm r10
                refine W.step [(11, _), (57, _)] (Sub.cons (hs_ _ _ rfl) (Sub.cons e10 (Sub.refl _))) ?_
                refine W.wants rfl rfl rfl rfl ?_
                refine W.move rfl rfl ?_
                refine W.nil ?_
                exact At.step (Ext.refl _) rfl
              refine And.intro ?_ ?_
              · intro L_ w47 hX_ hs_ hf_ hd_
                obtain ⟨v15, e15, r15⟩ := hd_ 15 rfl
                obtain rfl : (.slice ao46 F.length c46 : Value) = v15 := Eq.symm r15
                obtain ⟨v10, e10, r10⟩ := hd_ 10 rfl
                obtain rfl : (.bool false : Value) = v10 := Eq.symm r10
                refine W.step [(62, _), (57, _)] (Sub.cons e15 (Sub.cons e10 (Sub.refl _))) ?_
                refine W.wants rfl rfl rfl rfl ?_
                refine W.bytesStr Try.underlying23 Try.underlying5 Try.underlying9 rfl (Sl.ext hS46 hX_) rfl ?_
                refine W.nil ?_
                exact At.step (Ext.refl _) rfl
              refine And.intro ?_ ?_
              · intro L_ w47 hX_ hs_ hf_ hd_
                obtain ⟨v14, e14, r14⟩ := hd_ 14 rfl
                obtain rfl : (strV F : Value) = v14 := Eq.symm r14
                obtain ⟨v16, e16, r16⟩ := hd_ 16 rfl
                obtain rfl : (strV F : Value) = v16 := Eq.symm r16
                obtain ⟨v10, e10, r10⟩ := hd_ 10 rfl
                obtain rfl : (.bool false : Value) = v10 := Eq.symm r10
                refine W.step [(61, _), (63, _), (57, _)] (Sub.cons e14 (Sub.cons e16 (Sub.cons e10 (Sub.refl _)))) ?_
                refine W.wants rfl rfl rfl rfl ?_
                refine W.neqStr (a := F) (b := F) rfl rfl rfl ?_
                refine W.eqv (bF (fun h => h rfl)) ?_
                refine W.nil ?_
                exact At.step (Ext.refl _) rfl
              exact trivial
            · intro L_ w47 hX6 hs_ hv_
              obtain ⟨v10, e10, r10⟩ := hv_ 10 (by decide)
              obtain rfl : (.bool false : Value) = v10 := Eq.symm r10
              obtain ⟨v17, e17, r17⟩ := hv_ 17 (by decide)
              obtain rfl : (.bool false : Value) = v17 := Eq.symm r17
              refine W.weaken (l' := [(57, _), (64, _), (1, _), (2, _), (3, _), (4, _), (10, _), (11, _)]) (Sub.cons e10 (Sub.cons e17 (Sub.cons (hs_ _ _ rfl) (Sub.cons (hs_ _ _ rfl) (Sub.cons (hs_ _ _ rfl) (Sub.cons (hs_ _ _ rfl) (Sub.cons (hs_ _ _ rfl) (Sub.cons (hs_ _ _ rfl) (Sub.nil))))))))) ?_
              refine W.pickF rfl rfl rfl ?_
              refine W.nil ?_
              refine At.thenCode ?_
              refine C.condF rfl ?_
              refine C.skip ?_
              refine At.thenCode ?_
              refine C.seq ?_
              refine C.seq ?_
              refine C.region ?_
              refine W.move rfl rfl ?_
              refine W.lssI rfl rfl rfl ?_
              refine W.nil ?_
              refine At.thenCode ?_
              first | refine C.condD rfl (fun c67 => ?_) (fun c67 => ?_) | refine C.cond rfl (fun c67 => ?_) (fun c67 => ?_)
              · refine C.seq ?_
                refine C.region ?_
                refine W.assign rfl rfl ?_
                refine W.nil ?_
                refine At.thenCode ?_
                refine C.ret ?_
                refine At.thenRet ?_
                refine At.ret1 Try.results13 rfl ?_
                first | exact ⟨rfl, Ext.below ((hX6'.ext hX49).ext hX11)⟩ | exact ⟨rfl, Ext.below (hX46'.ext hX6)⟩ | exact ⟨rfl, Ext.below (hX4.ext hX13)⟩
              · have hS42 := hS42.ext hX6
                have hB4 := hB4.ext hX6
                have hX6' := hX46'.ext hX6
                have hs6 := hB4.lt
                have hf1 := hf1 (by omega)
                have hf2 := hf2 (by omega)
                have hl32 : (E.take 32).length = 32 := by rw [List.length_take]; omega
                obtain ⟨B2, hB2⟩ : ∃ B2, B2 = blkT key info 2 := ⟨_, rfl⟩
                have hB2l : B2.length = 32 := by rw [hB2, blkT, macV_length]
                have hme : macV key (E.take 32 ++ info ++ [2]) = B2 := by rw [hf1, hB2]; rfl
                refine C.skip ?_
                refine At.thenCode ?_
                refine C.seq ?_
                refine C.regionAnyG (GP w47.heap.size 5 1 30 (fun _ => False) ((E.take 32 ++ info ++ [2]).map byteV)) (GP.trans) (GP.ext) 10 ((fun v w => v = .slice (some ⟨g4, 0, none⟩) 32 32) :: (fun v w => v = .slice ao42 E.length c42) :: (fun v w => ∃ ao c, v = .slice ao 32 c ∧ (∀ ad, ao = some ad → ad.block < w47.heap.size) ∧ Sl w ao 32 c 1 ((E.take 32).map byteV)) :: (fun v w => Ow w w47.heap.size 5 v (E.take 32)) :: (fun v w => v = strV info) :: (fun v w => Ow w w47.heap.size 5 v (E.take 32 ++ info)) :: (fun v w => ∃ g, v = .slice (some ⟨g, 0, none⟩) 1 1 ∧ Ow w w47.heap.size 5 v [2]) :: (fun v w => Ow w w47.heap.size 5 v (E.take 32 ++ info ++ [2])) :: (fun v w => v = keyV B2) :: (fun v w => ∃ g, v = .pointer (some ⟨g, 0, none⟩) ∧ w47.heap.size ≤ g ∧ w.heap[g]? = some (.cells (List.replicate 32 (byteV 0)).toArray 25 (0, 0))) :: []) [(1, strV info), (2, .int .i64 n), (3, .int .i64 m), (4, .pointer (some ⟨g4, 0, none⟩)), (10, .slice ao42 E.length c42), (11, .slice ao46 F.length c46)] [] (Sub.cons (rfl) (Sub.cons (rfl) (Sub.cons (rfl) (Sub.cons (rfl) (Sub.cons (rfl) (Sub.cons (rfl) (Sub.nil))))))) (Sub.nil) (Sub.cons (rfl) (Sub.cons (rfl) (Sub.cons (rfl) (Sub.cons (rfl) (Sub.cons (rfl) (Sub.cons (rfl) (Sub.nil))))))) (by kernel_rfl) rfl rfl rfl (And.intro (fun _ _ _ h _ => h) (And.intro (fun _ _ _ h _ => h) (And.intro (fun _ _ _ ⟨ao, c, hv, ho, hs⟩ gp => ⟨ao, c, hv, ho, GP.slOld gp hs (fun ad e _ => ⟨ho ad e, fun x => x⟩)⟩) (And.intro (fun _ _ _ ho gp => GP.rowB gp ho (by rw [List.append_assoc]; exact List.prefix_append _ _)) (And.intro (fun _ _ _ h _ => h) (And.intro (fun _ _ _ ho gp => GP.rowB gp ho (List.prefix_append _ _)) (And.intro (fun v _ _ ⟨g, hv, ho⟩ gp => ⟨g, hv, by subst hv; exact GP.lit gp ho (by decide) (fun x => x)⟩) (And.intro (fun _ _ _ ho gp => GP.rowB gp ho (List.prefix_refl _)) (And.intro (fun _ _ _ h _ => h) (And.intro (fun _ _ _ ⟨g, hv, hg, hb⟩ gp => ⟨g, hv, hg, GP.bk gp hb (by decide) (fun x => x)⟩) (trivial))))))))))) ?_ ?_
                · refine And.intro ?_ ?_
                  · intro L_ w48 hX_ hs_ hf_ hd_
                    refine W.step [(4, _)] (Sub.cons (hs_ _ _ rfl) (Sub.refl _)) ?_
                    refine W.sliceA X8 Try.underlying25 rfl rfl ?_
                    refine W.nil ?_
                    exact At.step ((GP.ext) _ _ (Ext.refl _)) rfl
                  refine And.intro ?_ ?_
                  · intro L_ w48 hX_ hs_ hf_ hd_
                    refine W.step [(10, _)] (Sub.cons (hs_ _ _ rfl) (Sub.refl _)) ?_
                    refine W.move rfl rfl ?_
                    refine W.nil ?_
                    exact At.step ((GP.ext) _ _ (Ext.refl _)) rfl
                  refine And.intro ?_ ?_
                  · intro L_ w48 hX_ hs_ hf_ hd_
                    obtain ⟨v1, e1, r1⟩ := hd_ 1 rfl
                    obtain rfl : (.slice ao42 E.length c42 : Value) = v1 := Eq.symm r1
                    refine W.step [(69, _)] (Sub.cons e1 (Sub.refl _)) ?_
                    have hS42' : Bs w48 ao42 c42 E := GP.slOld hX_ hS42 (fun ad e hne => ⟨Sl.blk hS42 e hne, fun x => x⟩)
                    refine W.slice (lo := 0) (hi := 32) E8 Try.underlying23 rfl hS42' (.inl ⟨rfl, rfl⟩) (.inr ⟨_, .i64, rfl, rfl⟩) (by omega) (by omega) rfl ?_
                    intro ao70 c70 hS70 hb70
                    refine W.nil ?_
                    exact At.step (GP.ext _ _ (Ext.refl _)) ⟨ao70, c70, rfl, fun ad e => by obtain ⟨a, ha, hb⟩ := hb70 ad e; have := Sl.blk hS42 ha (by intro h; have h2 := congrArg List.length h; rw [List.length_map, List.length_nil] at h2; omega); omega, by rw [List.map_take]; simpa using hS70⟩
                  refine And.intro ?_ ?_
                  · intro L_ w48 hX_ hs_ hf_ hd_
                    obtain ⟨v2, e2, r2⟩ := hd_ 2 rfl
                    obtain ⟨ao70, c70, rfl, ho70, hS70⟩ := r2
                    refine W.step [(70, _)] (Sub.cons e2 (Sub.refl _)) ?_
                    refine W.appendGB (xs := []) (ys := E.take 32) E8 Try.underlying23 rfl (look_eq rfl (by rw [hl32])) (Ow.nil _ w47.heap.size 5) (by show Sl _ _ _ _ _ _; rw [hl32]; exact hS70) (by rw [hl32]; decide) hX_.size rfl ?_
                    intro v71 w71 ho71 hg71
                    rw [List.nil_append] at ho71
                    refine W.nil ?_
                    exact At.step (GP.grewB (xs := []) hg71 (Ow.nil _ w47.heap.size _) (by rw [List.nil_append, List.append_assoc]; exact List.prefix_append _ _) (fun k hk => by cases hk)) ho71
                  refine And.intro ?_ ?_
                  · intro L_ w48 hX_ hs_ hf_ hd_
                    refine W.step [(1, _)] (Sub.cons (hs_ _ _ rfl) (Sub.refl _)) ?_
                    refine W.move rfl rfl ?_
                    refine W.nil ?_
                    exact At.step ((GP.ext) _ _ (Ext.refl _)) rfl
                  refine And.intro ?_ ?_
                  · intro L_ w48 hX_ hs_ hf_ hd_
                    obtain ⟨v3, e3, r3⟩ := hd_ 3 rfl
                    obtain ⟨v4, e4, r4⟩ := hd_ 4 rfl
                    obtain rfl : (strV info : Value) = v4 := Eq.symm r4
                    refine W.step [(71, _), (72, _)] (Sub.cons e3 (Sub.cons e4 (Sub.refl _))) ?_
                    refine W.appendGStr E8 Try.underlying23 Try.underlying9 rfl rfl r3 (by omega) hX_.size rfl ?_
                    intro v73 w73 ho73 hg73
                    refine W.nil ?_
                    exact At.step (GP.grewB hg73 r3 (List.prefix_append _ _) (fun k hk => Or.inr ⟨(World.ownsRow.lt r3 k hk).1, by omega⟩)) ho73
                  refine And.intro ?_ ?_
                  · intro L_ w48 hX_ hs_ hf_ hd_
                    refine W.step [] (Sub.refl _) ?_
                    refine W.litB [2] E8 Try.underlying23 rfl rfl rfl rfl rfl ?_
                    intro g74 w74 hg74 hX74 ho74 hb74
                    refine W.nil ?_
                    exact At.step (GP.ext _ _ hX74) ⟨g74, rfl, ownsRow_base ho74 hX_.size⟩
                  refine And.intro ?_ ?_
                  · intro L_ w48 hX_ hs_ hf_ hd_
                    obtain ⟨v5, e5, r5⟩ := hd_ 5 rfl
                    obtain ⟨v6, e6, r6⟩ := hd_ 6 rfl
                    obtain ⟨g74, rfl, ho74⟩ := r6
                    refine W.step [(73, _), (74, _)] (Sub.cons e5 (Sub.cons e6 (Sub.refl _))) ?_
                    obtain ⟨_, _, he6, hs6', _⟩ := ownsRow_form ho74
                    injection he6 with he6a he6b he6c
                    subst he6a; subst he6c
                    refine W.appendGB (ys := [2]) E8 Try.underlying23 rfl rfl r5 hs6' (by rw [List.length_append, List.length_singleton]; omega) hX_.size rfl ?_
                    intro v75 w75 ho75 hg75
                    refine W.nil ?_
                    exact At.step (GP.grewB hg75 r5 (List.prefix_refl _) (fun k hk => Or.inr ⟨(World.ownsRow.lt r5 k hk).1, by rw [List.length_append]; omega⟩)) ho75
                  refine And.intro ?_ ?_
                  · intro L_ w48 hX_ hs_ hf_ hd_
                    obtain ⟨v0, e0, r0⟩ := hd_ 0 rfl
                    obtain rfl : (.slice (some ⟨g4, 0, none⟩) 32 32 : Value) = v0 := Eq.symm r0
                    obtain ⟨v7, e7, r7⟩ := hd_ 7 rfl
                    refine W.step [(68, _), (75, _)] (Sub.cons e0 (Sub.cons e7 (Sub.refl _))) ?_
                    obtain ⟨ao75, c75, rfl, hS75, _⟩ := ownsRow_form r7
                    have hBL : Bk w48 g4 (key.map byteV) := GP.bkOld hX_ hB4 hs6 (fun x => x)
                    have hSk : Bs w48 (some ⟨g4, 0, none⟩) 32 key := by show Sl _ _ _ _ _ _; rw [hk]; exact hBL.sl 1 (by rw [List.length_map, hk]) (by omega)
                    have hmo := Mac.Of_ok (some ⟨g4, 0, none⟩) 32 key _ _ _ w48 hSk hS75 (by omega) (by simp only [List.length_append, List.length_singleton]; omega)
                    rw [hk] at hmo
                    refine W.call Try.call23 rfl hmo rfl ?_
                    rintro v76 w76 ⟨rfl, hX76⟩
                    rw [hme]
                    refine W.nil ?_
                    exact At.step (GP.ext _ _ hX76) rfl
                  refine And.intro ?_ ?_
                  · intro L_ w48 hX_ hs_ hf_ hd_
                    refine W.step [] (Sub.refl _) ?_
                    refine W.allocT (z := .agg (List.replicate 32 (byteV 0)).toArray) (List.replicate 32 (byteV 0)) (by kernel_rfl) rfl rfl ?_
                    intro g12 w12 hg12 hX12 hB12
                    refine W.nil ?_
                    exact At.step (GP.ext _ _ hX12) ⟨g12, rfl, by have := hX_.size; omega, hB12⟩
                  exact trivial
                · intro L_ w48 hX10 hs_ hv_
                  obtain ⟨v8, e8, r8⟩ := hv_ 8 (by decide)
                  obtain rfl : (keyV B2 : Value) = v8 := Eq.symm r8
                  obtain ⟨v9, e9, r9⟩ := hv_ 9 (by decide)
                  obtain ⟨g12, rfl, hn12, hB12⟩ := r9
                  obtain ⟨v0, e0, r0⟩ := hv_ 0 (by decide)
                  obtain rfl : (.slice (some ⟨g4, 0, none⟩) 32 32 : Value) = v0 := Eq.symm r0
                  refine W.weaken (l' := [(76, _), (12, _), (68, _), (1, _), (2, _), (3, _), (4, _), (10, _), (11, _)]) (Sub.cons e8 (Sub.cons e9 (Sub.cons e0 (Sub.cons (hs_ _ _ rfl) (Sub.cons (hs_ _ _ rfl) (Sub.cons (hs_ _ _ rfl) (Sub.cons (hs_ _ _ rfl) (Sub.cons (hs_ _ _ rfl) (Sub.cons (hs_ _ _ rfl) (Sub.nil)))))))))) ?_
                  have hX10 : Ext w47 _ := (hX10.chg (Nat.le_refl _)).mono fun _ x => x
                  refine W.storeA (B2.map byteV) rfl rfl ⟨_, hB12⟩ (by rw [List.length_map, hB2l]; rfl) (by rw [List.length_map, hB2l]; kernel_rfl) (bytes_oneCell _) ?_
                  intro w49 hc49 hB12
                  have hX49 : Ext w47 w49 := hX10.news hc49 (fun k hk => Or.inr (by omega))
                  have hS42 := hS42.ext hX49
                  refine W.nil ?_
                  refine At.thenCode ?_
                  refine C.seq ?_
                  refine C.regionAny 7 ((fun v w => v = .slice (some ⟨g12, 0, none⟩) B2.length 32) :: (fun v w => v = strV B2) :: (fun v w => v = .slice ao42 E.length c42) :: (fun v w => ∃ ao c, v = .slice ao B2.length c ∧ Bs w ao c B2) :: (fun v w => v = strV B2) :: (fun v w => v = .bool true) :: (fun v w => v = .bool true) :: []) [(10, .slice ao42 E.length c42), (12, .pointer (some ⟨g12, 0, none⟩))] [] (Sub.cons (rfl) (Sub.cons (rfl) (Sub.nil))) (Sub.nil) (Sub.cons (rfl) (Sub.cons (rfl) (Sub.nil))) (by kernel_rfl) rfl rfl rfl (And.intro (fun _ _ _ h _ => h) (And.intro (fun _ _ _ h _ => h) (And.intro (fun _ _ _ h _ => h) (And.intro (fun _ _ _ ⟨ao, c, hv, hs⟩ g => ⟨ao, c, hv, Sl.ext hs g⟩) (And.intro (fun _ _ _ h _ => h) (And.intro (fun _ _ _ h _ => h) (And.intro (fun _ _ _ h _ => h) (trivial)))))))) ?_ ?_
                  · refine And.intro ?_ ?_
                    · intro L_ w50 hX_ hs_ hf_ hd_
                      refine W.step [(12, _)] (Sub.cons (hs_ _ _ rfl) (Sub.refl _)) ?_
                      refine W.sliceA X8 Try.underlying25 rfl rfl ?_
                      refine W.eqv (v' := .slice (some ⟨g12, 0, none⟩) B2.length 32) (by rw [hB2l]) ?_
                      refine W.nil ?_
                      exact At.step (Ext.refl _) rfl
                    refine And.intro ?_ ?_
                    · intro L_ w50 hX_ hs_ hf_ hd_
                      obtain ⟨v0, e0, r0⟩ := hd_ 0 rfl
                      obtain rfl : (.slice (some ⟨g12, 0, none⟩) B2.length 32 : Value) = v0 := Eq.symm r0
                      refine W.step [(77, _)] (Sub.cons e0 (Sub.refl _)) ?_
                      have hS12 : Bs w50 (some ⟨g12, 0, none⟩) 32 B2 := by show Sl _ _ _ _ _ _; rw [hB2l]; exact (hB12.ext hX_).sl 1 (by rw [List.length_map, hB2l]) (by omega)
                      refine W.bytesStr Try.underlying23 Try.underlying5 Try.underlying9 rfl hS12 rfl ?_
                      refine W.nil ?_
                      exact At.step (Ext.refl _) rfl
                    refine And.intro ?_ ?_
                    · intro L_ w50 hX_ hs_ hf_ hd_
                      refine W.step [(10, _)] (Sub.cons (hs_ _ _ rfl) (Sub.refl _)) ?_
                      refine W.move rfl rfl ?_
                      refine W.nil ?_
                      exact At.step (Ext.refl _) rfl
                    refine And.intro ?_ ?_
                    · intro L_ w50 hX_ hs_ hf_ hd_
                      obtain ⟨v2, e2, r2⟩ := hd_ 2 rfl
                      obtain rfl : (.slice ao42 E.length c42 : Value) = v2 := Eq.symm r2
                      refine W.step [(79, _)] (Sub.cons e2 (Sub.refl _)) ?_
                      refine W.slice (lo := 32) (hi := 64) E8 Try.underlying23 rfl (Sl.ext hS42 hX_) (.inr ⟨_, .i64, rfl, rfl⟩) (.inr ⟨_, .i64, rfl, rfl⟩) (by omega) (by omega) rfl ?_
                      intro ao80 c80 hS80 _
                      refine W.nil ?_
                      exact At.step (Ext.refl _) ⟨ao80, c80, by rw [hB2l], by rw [hB2, ← hf2]; show Sl _ _ _ _ _ _; rw [hf2, ← hB2, hB2l, hB2, ← hf2, List.map_take, List.map_drop]; simpa using hS80⟩
                    refine And.intro ?_ ?_
                    · intro L_ w50 hX_ hs_ hf_ hd_
                      obtain ⟨v3, e3, r3⟩ := hd_ 3 rfl
                      obtain ⟨ao80, c80, rfl, hS80⟩ := r3
                      refine W.step [(80, _)] (Sub.cons e3 (Sub.refl _)) ?_
                      refine W.bytesStr Try.underlying23 Try.underlying5 Try.underlying9 rfl hS80 rfl ?_
                      refine W.nil ?_
                      exact At.step (Ext.refl _) rfl
                    refine And.intro ?_ ?_
                    · intro L_ w50 hX_ hs_ hf_ hd_
                      obtain ⟨v1, e1, r1⟩ := hd_ 1 rfl
                      obtain rfl : (strV B2 : Value) = v1 := Eq.symm r1
                      obtain ⟨v4, e4, r4⟩ := hd_ 4 rfl
                      obtain rfl : (strV B2 : Value) = v4 := Eq.symm r4
                      refine W.step [(78, _), (81, _)] (Sub.cons e1 (Sub.cons e4 (Sub.refl _))) ?_
                      refine W.eqlStr (a := B2) (b := B2) rfl rfl rfl ?_
                      refine W.eqv (bT (rfl)) ?_
                      refine W.nil ?_
                      exact At.step (Ext.refl _) rfl
                    refine And.intro ?_ ?_
                    · intro L_ w50 hX_ hs_ hf_ hd_
                      obtain ⟨v5, e5, r5⟩ := hd_ 5 rfl
                      obtain rfl : (.bool true : Value) = v5 := Eq.symm r5
                      refine W.step [(82, _)] (Sub.cons e5 (Sub.refl _)) ?_
                      refine W.assign rfl rfl ?_
                      refine W.nil ?_
                      exact At.step (Ext.refl _) rfl
                    exact trivial
                  · intro L_ w50 hX11 hs_ hv_
                    obtain ⟨v6, e6, r6⟩ := hv_ 6 (by decide)
                    obtain rfl : (.bool true : Value) = v6 := Eq.symm r6
                    refine W.weaken (l' := [(8, _), (10, _), (12, _)]) (Sub.cons e6 (Sub.cons (hs_ _ _ rfl) (Sub.cons (hs_ _ _ rfl) (Sub.nil)))) ?_
                    refine W.nil ?_
                    refine At.thenCode ?_
                    refine C.ret ?_
                    refine At.ret1 Try.results13 rfl ?_
                    first | exact ⟨rfl, Ext.below ((hX6'.ext hX49).ext hX11)⟩ | exact ⟨rfl, Ext.below (hX46'.ext hX6)⟩ | exact ⟨rfl, Ext.below (hX4.ext hX13)⟩
end Go.Proofs.Ytmnndbebnojlgaa.Law4
