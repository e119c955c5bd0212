/- The walks of chapter 4's laws. -/
import Derived.Test.YtmnndbebnojlgaaDerive
namespace Go.Proofs.Ytmnndbebnojlgaa.Law4
open Go Go.RowKit Go.Proofs.Ytmnndbebnojlgaa.KW Go.Proofs.Ytmnndbebnojlgaa.Words Go.Proofs.Ytmnndbebnojlgaa.Sha Go.Proofs.Ytmnndbebnojlgaa.RSha Go.Proofs.Ytmnndbebnojlgaa.Mac Go.Proofs.Ytmnndbebnojlgaa.Derive
set_option linter.unusedVariables false
set_option linter.unusedSimpArgs false
set_option maxRecDepth 100000

theorem key_ne : keyD [] [97] ≠ keyD [] [98] := by decide +kernel
theorem key_length (s n : List UInt8) : (keyD s n).length = 32 := expand32_length _ _
theorem expandV_length {key info : List UInt8} {n : Int} (h1 : ¬ n < 1) (h2 : ¬ 8160 < n) : (expandV key info n).length = n.toNat := by
  unfold expandV; rw [if_neg (by omega), List.length_take, outT_length]; omega
theorem outT_take (key info : List UInt8) : ∀ (i j : Nat), i ≤ j → (outT key info j).take (32 * i) = outT key info i := by
  intro i j
  induction j with
  | zero => intro h; obtain rfl : i = 0 := by omega
            rfl
  | succ j ih =>
    intro h
    by_cases e : i = j + 1
    · subst e; rw [List.take_of_length_le (by rw [outT_length]; exact Nat.le_refl _)]
    · rw [outT, List.take_append_of_le_length (by rw [outT_length]; omega)]; exact ih (by omega)
theorem expandV_take {key info : List UInt8} {n m : Int} (h1 : 1 ≤ m) (h2 : m ≤ n) (h3 : n ≤ 8160) : (expandV key info n).take m.toNat = expandV key info m := by
  unfold expandV
  rw [if_neg (by omega), if_neg (by omega), List.take_take, show min m.toNat n.toNat = m.toNat by omega, ← outT_take key info ((m.toNat + 31) / 32) ((n.toNat + 31) / 32) (by omega), List.take_take, show min m.toNat (32 * ((m.toNat + 31) / 32)) = m.toNat by omega]
theorem expandV_first {key info : List UInt8} {n : Int} (h1 : 32 ≤ n) (h3 : n ≤ 8160) : (expandV key info n).take 32 = blkT key info 1 := by
  have := expandV_take (key := key) (info := info) (m := 32) (by omega) h1 h3
  rw [show (32 : Int).toNat = 32 from rfl] at this
  rw [this]
  unfold expandV
  rw [if_neg (by omega)]
  show (outT key info 1).take 32 = _
  rw [List.take_of_length_le (by rw [outT_length]; omega)]
  rfl
theorem expandV_second {key info : List UInt8} {n : Int} (h1 : 64 ≤ n) (h3 : n ≤ 8160) : ((expandV key info n).drop 32).take 32 = blkT key info 2 := by
  have := expandV_take (key := key) (info := info) (m := 64) (by omega) h1 h3
  rw [show (64 : Int).toNat = 64 from rfl] at this
  have h2 : ((expandV key info n).drop 32).take 32 = ((expandV key info n).take 64).drop 32 := by rw [List.drop_take]
  rw [h2, this]
  unfold expandV
  rw [if_neg (by omega)]
  show ((outT key info 2).take 64).drop 32 = _
  rw [List.take_of_length_le (by rw [outT_length]; omega), outT, List.drop_append_of_le_length (by rw [outT_length]; omega), List.drop_of_length_le (by rw [outT_length]; omega)]
  rfl
theorem alive_ok (w : World) : Ct Try.prog 25 #[] w (fun v w' => v = .bool true ∧ Ext w w') := by
  refine Ct.enter [] Try.func25 rfl rfl rfl rfl ?_
  refine C.seq ?_
  refine C.region ?_
  refine W.assign rfl rfl ?_
  refine W.nil ?_
  refine At.thenCode ?_
  refine C.seq ?_
  refine C.region ?_
  refine W.buildAF (List.replicate 32 (byteV 0)) (List.replicate 32 (byteV 0)) X8 Try.underlying25 (by kernel_rfl) rfl rfl rfl ?_
  refine W.call Try.call26 rfl (Derive.Expand_ok (List.replicate 32 0) [] 0 _ (by decide) (by decide) (by decide)) rfl ?_
  rintro v2 w2 ⟨⟨ao2, c2, rfl, hS2, _⟩, hX2⟩
  refine W.lenS rfl Try.underlying23 rfl ?_
  rw [show (expandV (List.replicate 32 0) [] 0).length = 0 from rfl]
  refine W.eqlI rfl rfl rfl ?_
  refine W.eqv (bT (by decide)) ?_
  refine W.move rfl rfl ?_
  refine W.wants rfl rfl rfl rfl ?_
  refine W.buildAF (((1 : UInt8) :: List.replicate 31 0).map byteV) (List.replicate 32 (byteV 0)) X8 Try.underlying25 (by kernel_rfl) rfl rfl rfl ?_
  refine W.wants rfl rfl rfl rfl ?_
  refine W.call Try.call26 rfl (Derive.Expand_ok ((1 : UInt8) :: List.replicate 31 0) [97] 40 _ (by decide) (by decide) (by decide)) rfl ?_
  rintro v7 w7 ⟨⟨ao7, c7, rfl, hS7, _⟩, hX7⟩
  refine W.wants rfl rfl rfl rfl ?_
  refine W.lenS rfl Try.underlying23 rfl ?_
  rw [expandV_length (by decide) (by decide)]
  refine W.wants rfl rfl rfl rfl ?_
  refine W.eqlI rfl rfl rfl ?_
  refine W.eqv (bT (by decide)) ?_
  refine W.pickT rfl rfl rfl ?_
  refine W.move rfl rfl ?_
  refine W.wants rfl rfl rfl rfl ?_
  refine W.call Try.call28 rfl (Derive.Key_ok none 0 [] [97] _ (Sl.none _ 1) (by decide) (by decide)) rfl ?_
  rintro v12 w12 ⟨rfl, hX12⟩
  refine W.wants rfl rfl rfl rfl ?_
  refine W.call Try.call28 rfl (Derive.Key_ok none 0 [] [98] _ (Sl.none _ 1) (by decide) (by decide)) rfl ?_
  rintro v13 w13 ⟨rfl, hX13⟩
  refine W.wants rfl rfl rfl rfl ?_
  refine W.neqKey Try.underlying25 Try.underlying5 (by kernel_rfl) rfl rfl (key_length _ _) (key_length _ _) (by kernel_rfl) rfl ?_
  refine W.eqv (bT (key_ne)) ?_
  refine W.pickT rfl rfl rfl ?_
  refine W.assign rfl rfl ?_
  refine W.nil ?_
  refine At.thenCode ?_
  refine C.ret ?_
  refine At.ret1 Try.results25 rfl ?_
  exact ⟨rfl, ((hX2.ext hX7).ext hX12).ext hX13⟩
theorem DeriveKeys_walk (ao : Option Addr) (c : Nat) (secret name : List UInt8) (w : World) (hS : Bs w ao c secret) (hl : secret.length ≤ 9223372036854775807) (hln : name.length ≤ 9223372036854775807) :
    Ct Try.prog 12 #[.slice ao secret.length c, strV name] w (LawOk w) := by
  refine Ct.enter [(0, .slice ao secret.length c), (1, strV name)] Try.func12 rfl rfl rfl rfl ?_
  have hns : (⟨name.toArray⟩ : ByteArray).size = name.length := by simp [ByteArray.size]
  refine C.seq ?_
  refine C.region ?_
  refine W.assign rfl rfl ?_
  refine W.nil ?_
  refine At.thenCode ?_
  refine C.seq ?_
  refine C.region ?_
  refine W.call Try.call25 rfl (alive_ok _) rfl ?_
  rintro v6 w6 ⟨rfl, hX6⟩
  have hS := hS.ext hX6
  refine W.assign rfl rfl ?_
  refine W.nil ?_
  refine At.thenCode ?_
  refine C.seq ?_
  refine C.seq ?_
  refine C.region ?_
  refine W.move rfl rfl ?_
  first | refine W.notD rfl rfl ?_ | refine W.notB rfl rfl ?_
  refine W.move rfl rfl ?_
  refine W.wants rfl rfl rfl rfl ?_
  refine W.move rfl rfl ?_
  refine W.wants rfl rfl rfl rfl ?_
  refine W.lenS rfl Try.underlying23 rfl ?_
  refine W.wants rfl rfl rfl rfl ?_
  refine W.gtrI rfl rfl rfl ?_
  refine W.pickF rfl rfl rfl ?_
  refine W.move rfl rfl ?_
  first | refine W.splitD (fun g14 => ?_) (fun g14 => ?_) | refine W.splitB (fun g14 => ?_) (fun g14 => ?_)
  · refine W.skips rfl rfl rfl rfl rfl rfl ?_
    refine W.skips rfl rfl rfl rfl rfl rfl ?_
    refine W.skips rfl rfl rfl rfl rfl rfl ?_
    refine W.pickT rfl rfl rfl ?_
    refine W.nil ?_
    refine At.thenCode ?_
    refine C.condT rfl ?_
    refine C.seq ?_
    refine C.region ?_
    refine W.move rfl rfl ?_
    refine W.assign rfl rfl ?_
    refine W.nil ?_
    refine At.thenCode ?_
    refine C.ret ?_
    refine At.thenRet ?_
    refine At.ret1 Try.results12 rfl ?_
    first | exact ⟨rfl, Ext.below (((hX6.ext hX21).ext hX23).ext hX26)⟩ | exact ⟨rfl, hX6.below⟩
  · refine W.wants rfl rfl rfl rfl ?_
    refine W.move rfl rfl ?_
    refine W.wants rfl rfl rfl rfl ?_
    refine W.lenStr rfl Try.underlying9 rfl ?_
    refine W.wants rfl rfl rfl rfl ?_
    refine W.gtrI rfl rfl rfl ?_
    refine W.pickF rfl rfl rfl ?_
    refine W.nil ?_
    refine At.thenCode ?_
    first | refine C.condD rfl (fun c18 => ?_) (fun c18 => ?_) | refine C.cond rfl (fun c18 => ?_) (fun c18 => ?_)
    · refine C.seq ?_
      refine C.region ?_
      refine W.move rfl rfl ?_
      refine W.assign rfl rfl ?_
      refine W.nil ?_
      refine At.thenCode ?_
      refine C.ret ?_
      refine At.thenRet ?_
      refine At.ret1 Try.results12 rfl ?_
      first | exact ⟨rfl, Ext.below (((hX6.ext hX21).ext hX23).ext hX26)⟩ | exact ⟨rfl, hX6.below⟩
    · refine C.skip ?_
      refine At.thenCode ?_
      refine C.seq ?_
      refine C.region ?_
      refine W.move rfl rfl ?_
      refine W.appendB E8 Try.underlying23 rfl rfl (Ow.nil _ w6.heap.size 5) hS (by simp; omega) (Nat.le_refl _) rfl ?_
      rw [List.nil_append]
      intro v21 w21 ho21 hg21 _
      have hX21 : Ext w6 w21 := (Chg.of_grown hg21).mono fun k hk => by cases hk
      obtain ⟨ao21, c21, rfl, hS21, _⟩ := ownsRow_form ho21
      refine W.move rfl rfl ?_
      refine W.call Try.call28 rfl (Derive.Key_ok _ _ _ _ _ hS21 (by omega) (by omega)) rfl ?_
      rintro v23 w23 ⟨rfl, hX23⟩
      refine W.move rfl rfl ?_
      refine W.move rfl rfl ?_
      refine W.call Try.call29 rfl (Derive.RKey_ok _ _ _ _ _ ((hS.ext hX21).ext hX23) (by omega) (by omega)) rfl ?_
      rintro v26 w26 ⟨rfl, hX26⟩
      refine W.eqlKey (a := keyD secret name) (b := keyD secret name) Try.underlying25 Try.underlying5 (by kernel_rfl) rfl rfl (key_length _ _) (key_length _ _) (by kernel_rfl) rfl ?_
      refine W.eqv (bT (rfl)) ?_
      refine W.assign rfl rfl ?_
      refine W.nil ?_
      refine At.thenCode ?_
      refine C.ret ?_
      refine At.ret1 Try.results12 rfl ?_
      first | exact ⟨rfl, Ext.below (((hX6.ext hX21).ext hX23).ext hX26)⟩ | exact ⟨rfl, hX6.below⟩
theorem DeriveExpands_walk (key info : List UInt8) (n : Int) (w : World) (hk : key.length = 32) (hln : info.length ≤ 9223372036854775807) (hn : -9223372036854775808 ≤ n ∧ n ≤ 9223372036854775807) :
    Ct Try.prog 11 #[keyV key, strV info, .int .i64 n] w (LawOk w) := by
  refine Ct.enter [(0, keyV key), (1, strV info), (2, .int .i64 n)] Try.func11 rfl rfl rfl rfl ?_
  have hns : (⟨info.toArray⟩ : ByteArray).size = info.length := by simp [ByteArray.size]
  refine C.seq ?_
  refine C.region ?_
  refine W.box (key.map byteV) rfl rfl rfl ?_
  intro g3 w3 hg3 hX3 hB3
  refine W.assign rfl rfl ?_
  refine W.nil ?_
  refine At.thenCode ?_
  refine C.seq ?_
  refine C.region ?_
  refine W.call Try.call25 rfl (alive_ok _) rfl ?_
  rintro v9 w9 ⟨rfl, hX9⟩
  have hB3 := hB3.ext hX9
  refine W.assign rfl rfl ?_
  refine W.nil ?_
  refine At.thenCode ?_
  refine C.seq ?_
  refine C.seq ?_
  refine C.region ?_
  refine W.move rfl rfl ?_
  first | refine W.notD rfl rfl ?_ | refine W.notB rfl rfl ?_
  refine W.move rfl rfl ?_
  refine W.wants rfl rfl rfl rfl ?_
  refine W.move rfl rfl ?_
  refine W.wants rfl rfl rfl rfl ?_
  refine W.lenStr rfl Try.underlying9 rfl ?_
  refine W.wants rfl rfl rfl rfl ?_
  refine W.gtrI rfl rfl rfl ?_
  refine W.pickF rfl rfl rfl ?_
  refine W.move rfl rfl ?_
  first | refine W.splitD (fun g17 => ?_) (fun g17 => ?_) | refine W.splitB (fun g17 => ?_) (fun g17 => ?_)
  · refine W.skips rfl rfl rfl rfl rfl rfl ?_
    refine W.skips rfl rfl rfl rfl rfl rfl ?_
    refine W.skips rfl rfl rfl rfl rfl rfl ?_
    refine W.skipsU rfl rfl rfl rfl rfl rfl ?_
    refine W.skipsU rfl rfl rfl rfl rfl rfl ?_
    refine W.skips rfl rfl rfl rfl rfl rfl ?_
    refine W.pickT rfl rfl rfl ?_
    refine W.nil ?_
    refine At.thenCode ?_
    refine C.condT rfl ?_
    refine C.seq ?_
    refine C.region ?_
    refine W.move rfl rfl ?_
    refine W.assign rfl rfl ?_
    refine W.nil ?_
    refine At.thenCode ?_
    refine C.ret ?_
    refine At.thenRet ?_
    refine At.ret1 Try.results11 rfl ?_
    first | exact ⟨rfl, Ext.below (((hX3.ext hX9).ext hX29).ext hX5)⟩ | exact ⟨rfl, Ext.below (hX3.ext hX9)⟩
  · refine W.wants rfl rfl rfl rfl ?_
    refine W.move rfl rfl ?_
    refine W.wants rfl rfl rfl rfl ?_
    refine W.gtrI rfl rfl rfl ?_
    refine W.wants rfl rfl rfl rfl ?_
    refine W.move rfl rfl ?_
    first | refine W.splitD (fun g20 => ?_) (fun g20 => ?_) | refine W.splitB (fun g20 => ?_) (fun g20 => ?_)
    · refine W.wants rfl rfl rfl rfl ?_
      refine W.move rfl rfl ?_
      refine W.wants rfl rfl rfl rfl ?_
      refine W.lssI rfl rfl rfl ?_
      refine W.wants rfl rfl rfl rfl ?_
      refine W.pickT rfl rfl rfl ?_
      refine W.pickF rfl rfl rfl ?_
      refine W.nil ?_
      refine At.thenCode ?_
      first | refine C.condD rfl (fun c24 => ?_) (fun c24 => ?_) | refine C.cond rfl (fun c24 => ?_) (fun c24 => ?_)
      · refine C.seq ?_
        refine C.region ?_
        refine W.move rfl rfl ?_
        refine W.assign rfl rfl ?_
        refine W.nil ?_
        refine At.thenCode ?_
        refine C.ret ?_
        refine At.thenRet ?_
        refine At.ret1 Try.results11 rfl ?_
        first | exact ⟨rfl, Ext.below (((hX3.ext hX9).ext hX29).ext hX5)⟩ | exact ⟨rfl, Ext.below (hX3.ext hX9)⟩
      · refine C.skip ?_
        refine At.thenCode ?_
        refine C.seq ?_
        refine C.region ?_
        refine W.loadA rfl (hB3.cells (o := 0)) Try.underlying25 rfl (by rw [List.drop_zero, List.length_map, hk]; kernel_rfl) rfl ?_
        refine W.move rfl rfl ?_
        refine W.move rfl rfl ?_
        refine W.call Try.call26 rfl (Derive.Expand_ok key info n _ hk hn (by omega)) rfl ?_
        rintro v29 w29 ⟨⟨ao29, c29, rfl, hS29, _⟩, hX29⟩
        have hB3 := hB3.ext hX29
        have hl29 : ¬ n < 1 → ¬ 8160 < n → ((expandV key info n).length : Int) = n := fun h1 h2 => by rw [expandV_length h1 h2]; omega
        obtain ⟨E, hE⟩ : ∃ E, E = expandV key info n := ⟨_, rfl⟩
        rw [← hE] at hS29 hl29 ⊢
        refine W.assign rfl rfl ?_
        refine W.nil ?_
        refine At.thenCode ?_
        refine C.seq ?_
        by_cases hn1 : n < 1
        · refine C.regionAny 23 ((fun v w => v = .slice ao29 E.length c29) :: (fun v w => v = strV E) :: (fun v w => v = keyV key) :: (fun v w => v = strV info) :: (fun v w => v = .int .i64 n) :: (fun v w => Rep w v E) :: (fun v w => v = strV E) :: (fun v w => v = .bool true) :: (fun v w => v = .bool true) :: (fun v w => v = .int .i64 n) :: (fun v w => v = .bool true) :: (fun v w => v = .bool true) :: (fun v w => v = undef) :: (fun v w => v = undef) :: (fun v w => v = .bool true) :: (fun v w => v = .bool true) :: (fun v w => v = undef) :: (fun v w => v = undef) :: (fun v w => v = undef) :: (fun v w => v = undef) :: (fun v w => v = .bool true) :: (fun v w => v = .bool true) :: (fun v w => v = .bool true) :: []) [(1, strV info), (2, .int .i64 n), (3, .pointer (some ⟨g3, 0, none⟩)), (8, .slice ao29 E.length c29)] [] (Sub.cons (rfl) (Sub.cons (rfl) (Sub.cons (rfl) (Sub.cons (rfl) (Sub.nil))))) (Sub.nil) (Sub.cons (rfl) (Sub.cons (rfl) (Sub.cons (rfl) (Sub.cons (rfl) (Sub.nil))))) (by kernel_rfl) rfl rfl rfl (And.intro (fun _ _ _ h _ => h) (And.intro (fun _ _ _ h _ => h) (And.intro (fun _ _ _ h _ => h) (And.intro (fun _ _ _ h _ => h) (And.intro (fun _ _ _ h _ => h) (And.intro (fun _ _ _ h g => h.ext g) (And.intro (fun _ _ _ h _ => h) (And.intro (fun _ _ _ h _ => h) (And.intro (fun _ _ _ h _ => h) (And.intro (fun _ _ _ h _ => h) (And.intro (fun _ _ _ h _ => h) (And.intro (fun _ _ _ h _ => h) (And.intro (fun _ _ _ h _ => h) (And.intro (fun _ _ _ h _ => h) (And.intro (fun _ _ _ h _ => h) (And.intro (fun _ _ _ h _ => h) (And.intro (fun _ _ _ h _ => h) (And.intro (fun _ _ _ h _ => h) (And.intro (fun _ _ _ h _ => h) (And.intro (fun _ _ _ h _ => h) (And.intro (fun _ _ _ h _ => h) (And.intro (fun _ _ _ h _ => h) (And.intro (fun _ _ _ h _ => h) (trivial)))))))))))))))))))))))) ?_ ?_
          · refine And.intro ?_ ?_
            · intro L_ w30 hX_ hs_ hf_ hd_
              refine W.step [(8, _)] (Sub.cons (hs_ _ _ rfl) (Sub.refl _)) ?_
              refine W.move rfl rfl ?_
              refine W.nil ?_
              exact At.step (Ext.refl _) rfl
            refine And.intro ?_ ?_
            · intro L_ w30 hX_ hs_ hf_ hd_
              obtain ⟨v0, e0, r0⟩ := hd_ 0 rfl
              obtain rfl : (.slice ao29 E.length c29 : Value) = v0 := Eq.symm r0
              refine W.step [(30, _)] (Sub.cons e0 (Sub.refl _)) ?_
              refine W.bytesStr Try.underlying23 Try.underlying5 Try.underlying9 rfl (Sl.ext hS29 hX_) rfl ?_
              refine W.nil ?_
              exact At.step (Ext.refl _) rfl
            refine And.intro ?_ ?_
            · intro L_ w30 hX_ hs_ hf_ hd_
              refine W.step [(3, _)] (Sub.cons (hs_ _ _ rfl) (Sub.refl _)) ?_
              refine W.loadA rfl ((hB3.ext hX_).cells (o := 0)) Try.underlying25 rfl (by rw [List.drop_zero, List.length_map, hk]; kernel_rfl) rfl ?_
              refine W.nil ?_
              exact At.step (Ext.refl _) rfl
            refine And.intro ?_ ?_
            · intro L_ w30 hX_ hs_ hf_ hd_
              refine W.step [(1, _)] (Sub.cons (hs_ _ _ rfl) (Sub.refl _)) ?_
              refine W.move rfl rfl ?_
              refine W.nil ?_
              exact At.step (Ext.refl _) rfl
            refine And.intro ?_ ?_
            · intro L_ w30 hX_ hs_ hf_ hd_
              refine W.step [(2, _)] (Sub.cons (hs_ _ _ rfl) (Sub.refl _)) ?_
              refine W.move rfl rfl ?_
              refine W.nil ?_
              exact At.step (Ext.refl _) rfl
            refine And.intro ?_ ?_
            · intro L_ w30 hX_ hs_ hf_ hd_
              obtain ⟨v2, e2, r2⟩ := hd_ 2 rfl
              obtain rfl : (keyV key : Value) = v2 := Eq.symm r2
              obtain ⟨v3, e3, r3⟩ := hd_ 3 rfl
              obtain rfl : (strV info : Value) = v3 := Eq.symm r3
              obtain ⟨v4, e4, r4⟩ := hd_ 4 rfl
              obtain rfl : (.int .i64 n : Value) = v4 := Eq.symm r4
              refine W.step [(32, _), (33, _), (34, _)] (Sub.cons e2 (Sub.cons e3 (Sub.cons e4 (Sub.refl _)))) ?_
              refine W.call Try.call27 rfl (Derive.RExpand_ok key info n _ hk hn (by omega)) rfl ?_
              rintro v35 w35 ⟨⟨ao35, c35, rfl, hS35, _⟩, hX35⟩
              refine W.nil ?_
              exact At.step hX35 ⟨_, _, by rw [hE], by rw [hE]; exact hS35⟩
            refine And.intro ?_ ?_
            · intro L_ w30 hX_ hs_ hf_ hd_
              obtain ⟨v5, e5, r5⟩ := hd_ 5 rfl
              obtain ⟨ao35, c35, rfl, hS35⟩ := r5
              refine W.step [(35, _)] (Sub.cons e5 (Sub.refl _)) ?_
              refine W.bytesStr Try.underlying23 Try.underlying5 Try.underlying9 rfl hS35 rfl ?_
              refine W.nil ?_
              exact At.step (Ext.refl _) rfl
            refine And.intro ?_ ?_
            · intro L_ w30 hX_ hs_ hf_ hd_
              obtain ⟨v1, e1, r1⟩ := hd_ 1 rfl
              obtain rfl : (strV E : Value) = v1 := Eq.symm r1
              obtain ⟨v6, e6, r6⟩ := hd_ 6 rfl
              obtain rfl : (strV E : Value) = v6 := Eq.symm r6
              refine W.step [(31, _), (36, _)] (Sub.cons e1 (Sub.cons e6 (Sub.refl _))) ?_
              refine W.eqlStr (a := E) (b := E) rfl rfl rfl ?_
              refine W.eqv (bT (rfl)) ?_
              refine W.nil ?_
              exact At.step (Ext.refl _) rfl
            refine And.intro ?_ ?_
            · intro L_ w30 hX_ hs_ hf_ hd_
              obtain ⟨v7, e7, r7⟩ := hd_ 7 rfl
              obtain rfl : (.bool true : Value) = v7 := Eq.symm r7
              refine W.step [(37, _)] (Sub.cons e7 (Sub.refl _)) ?_
              refine W.move rfl rfl ?_
              refine W.nil ?_
              exact At.step (Ext.refl _) rfl
            refine And.intro ?_ ?_
            · intro L_ w30 hX_ hs_ hf_ hd_
              obtain ⟨v8, e8, r8⟩ := hd_ 8 rfl
              obtain rfl : (.bool true : Value) = v8 := Eq.symm r8
              refine W.step [(2, _), (38, _)] (Sub.cons (hs_ _ _ rfl) (Sub.cons e8 (Sub.refl _))) ?_
              refine W.wants rfl rfl rfl rfl ?_
              refine W.move rfl rfl ?_
              refine W.nil ?_
              exact At.step (Ext.refl _) rfl
            refine And.intro ?_ ?_
            · intro L_ w30 hX_ hs_ hf_ hd_
              obtain ⟨v9, e9, r9⟩ := hd_ 9 rfl
              obtain rfl : (.int .i64 n : Value) = v9 := Eq.symm r9
              obtain ⟨v8, e8, r8⟩ := hd_ 8 rfl
              obtain rfl : (.bool true : Value) = v8 := Eq.symm r8
              refine W.step [(39, _), (38, _)] (Sub.cons e9 (Sub.cons e8 (Sub.refl _))) ?_
              refine W.wants rfl rfl rfl rfl ?_
              refine W.lssI rfl rfl rfl ?_
              refine W.eqv (bT (by omega)) ?_
              refine W.nil ?_
              exact At.step (Ext.refl _) rfl
            refine And.intro ?_ ?_
            · intro L_ w30 hX_ hs_ hf_ hd_
              obtain ⟨v10, e10, r10⟩ := hd_ 10 rfl
              obtain rfl : (.bool true : Value) = v10 := Eq.symm r10
              obtain ⟨v8, e8, r8⟩ := hd_ 8 rfl
              obtain rfl : (.bool true : Value) = v8 := Eq.symm r8
              refine W.step [(40, _), (38, _)] (Sub.cons e10 (Sub.cons e8 (Sub.refl _))) ?_
              refine W.wants rfl rfl rfl rfl ?_
              refine W.move rfl rfl ?_
              refine W.nil ?_
              exact At.step (Ext.refl _) rfl
            refine And.intro ?_ ?_
            · intro L_ w30 hX_ hs_ hf_ hd_
              obtain ⟨v11, e11, r11⟩ := hd_ 11 rfl
              obtain rfl : (.bool true : Value) = v11 := Eq.symm r11
              refine W.step [(41, _)] (Sub.cons e11 (Sub.refl _)) ?_
              refine W.skips rfl rfl rfl rfl rfl rfl ?_
              refine W.nil ?_
              exact At.step (Ext.refl _) rfl
            refine And.intro ?_ ?_
            · intro L_ w30 hX_ hs_ hf_ hd_
              obtain ⟨v11, e11, r11⟩ := hd_ 11 rfl
              obtain rfl : (.bool true : Value) = v11 := Eq.symm r11
              refine W.step [(41, _)] (Sub.cons e11 (Sub.refl _)) ?_
              refine W.skips rfl rfl rfl rfl rfl rfl ?_
              refine W.nil ?_
              exact At.step (Ext.refl _) rfl
            refine And.intro ?_ ?_
            · intro L_ w30 hX_ hs_ hf_ hd_
              obtain ⟨v11, e11, r11⟩ := hd_ 11 rfl
              obtain rfl : (.bool true : Value) = v11 := Eq.symm r11
              obtain ⟨v13, e13, r13⟩ := hd_ 13 rfl
              obtain rfl : (undef : Value) = v13 := Eq.symm r13
              obtain ⟨v8, e8, r8⟩ := hd_ 8 rfl
              obtain rfl : (.bool true : Value) = v8 := Eq.symm r8
              refine W.step [(41, _), (43, _), (38, _)] (Sub.cons e11 (Sub.cons e13 (Sub.cons e8 (Sub.refl _)))) ?_
              refine W.wants rfl rfl rfl rfl ?_
              refine W.pickT rfl rfl rfl ?_
              refine W.nil ?_
              exact At.step (Ext.refl _) rfl
            refine And.intro ?_ ?_
            · intro L_ w30 hX_ hs_ hf_ hd_
              obtain ⟨v14, e14, r14⟩ := hd_ 14 rfl
              obtain rfl : (.bool true : Value) = v14 := Eq.symm r14
              obtain ⟨v8, e8, r8⟩ := hd_ 8 rfl
              obtain rfl : (.bool true : Value) = v8 := Eq.symm r8
              refine W.step [(44, _), (38, _)] (Sub.cons e14 (Sub.cons e8 (Sub.refl _))) ?_
              refine W.wants rfl rfl rfl rfl ?_
              refine W.move rfl rfl ?_
              refine W.nil ?_
              exact At.step (Ext.refl _) rfl
            refine And.intro ?_ ?_
            · intro L_ w30 hX_ hs_ hf_ hd_
              obtain ⟨v15, e15, r15⟩ := hd_ 15 rfl
              obtain rfl : (.bool true : Value) = v15 := Eq.symm r15
              refine W.step [(45, _)] (Sub.cons e15 (Sub.refl _)) ?_
              refine W.skips rfl rfl rfl rfl rfl rfl ?_
              refine W.nil ?_
              exact At.step (Ext.refl _) rfl
            refine And.intro ?_ ?_
            · intro L_ w30 hX_ hs_ hf_ hd_
              obtain ⟨v15, e15, r15⟩ := hd_ 15 rfl
              obtain rfl : (.bool true : Value) = v15 := Eq.symm r15
              refine W.step [(45, _)] (Sub.cons e15 (Sub.refl _)) ?_
              refine W.skips rfl rfl rfl rfl rfl rfl ?_
              refine W.nil ?_
              exact At.step (Ext.refl _) rfl
            refine And.intro ?_ ?_
            · intro L_ w30 hX_ hs_ hf_ hd_
              obtain ⟨v15, e15, r15⟩ := hd_ 15 rfl
              obtain rfl : (.bool true : Value) = v15 := Eq.symm r15
              refine W.step [(45, _)] (Sub.cons e15 (Sub.refl _)) ?_
              refine W.skips rfl rfl rfl rfl rfl rfl ?_
              refine W.nil ?_
              exact At.step (Ext.refl _) rfl
            refine And.intro ?_ ?_
            · intro L_ w30 hX_ hs_ hf_ hd_
              obtain ⟨v15, e15, r15⟩ := hd_ 15 rfl
              obtain rfl : (.bool true : Value) = v15 := Eq.symm r15
              refine W.step [(45, _)] (Sub.cons e15 (Sub.refl _)) ?_
              refine W.skips rfl rfl rfl rfl rfl rfl ?_
              refine W.nil ?_
              exact At.step (Ext.refl _) rfl
            refine And.intro ?_ ?_
            · intro L_ w30 hX_ hs_ hf_ hd_
              obtain ⟨v15, e15, r15⟩ := hd_ 15 rfl
              obtain rfl : (.bool true : Value) = v15 := Eq.symm r15
              obtain ⟨v19, e19, r19⟩ := hd_ 19 rfl
              obtain rfl : (undef : Value) = v19 := Eq.symm r19
              obtain ⟨v8, e8, r8⟩ := hd_ 8 rfl
              obtain rfl : (.bool true : Value) = v8 := Eq.symm r8
              refine W.step [(45, _), (49, _), (38, _)] (Sub.cons e15 (Sub.cons e19 (Sub.cons e8 (Sub.refl _)))) ?_
              refine W.wants rfl rfl rfl rfl ?_
              refine W.pickT rfl rfl rfl ?_
              refine W.nil ?_
              exact At.step (Ext.refl _) rfl
            refine And.intro ?_ ?_
            · intro L_ w30 hX_ hs_ hf_ hd_
              obtain ⟨v8, e8, r8⟩ := hd_ 8 rfl
              obtain rfl : (.bool true : Value) = v8 := Eq.symm r8
              obtain ⟨v20, e20, r20⟩ := hd_ 20 rfl
              obtain rfl : (.bool true : Value) = v20 := Eq.symm r20
              refine W.step [(38, _), (50, _)] (Sub.cons e8 (Sub.cons e20 (Sub.refl _))) ?_
              refine W.pickT rfl rfl rfl ?_
              refine W.nil ?_
              exact At.step (Ext.refl _) rfl
            refine And.intro ?_ ?_
            · intro L_ w30 hX_ hs_ hf_ hd_
              obtain ⟨v21, e21, r21⟩ := hd_ 21 rfl
              obtain rfl : (.bool true : Value) = v21 := Eq.symm r21
              refine W.step [(51, _)] (Sub.cons e21 (Sub.refl _)) ?_
              refine W.assign rfl rfl ?_
              refine W.nil ?_
              exact At.step (Ext.refl _) rfl
            exact trivial
          · intro L_ w30 hX5 hs_ hv_
            obtain ⟨v22, e22, r22⟩ := hv_ 22 (by decide)
            obtain rfl : (.bool true : Value) = v22 := Eq.symm r22
            refine W.weaken (l' := [(6, _), (1, _), (2, _), (3, _), (8, _)]) (Sub.cons e22 (Sub.cons (hs_ _ _ rfl) (Sub.cons (hs_ _ _ rfl) (Sub.cons (hs_ _ _ rfl) (Sub.cons (hs_ _ _ rfl) (Sub.nil)))))) ?_
            refine W.nil ?_
            refine At.thenCode ?_
            refine C.ret ?_
            refine At.ret1 Try.results11 rfl ?_
            first | exact ⟨rfl, Ext.below (((hX3.ext hX9).ext hX29).ext hX5)⟩ | exact ⟨rfl, Ext.below (hX3.ext hX9)⟩
        · by_cases hn2 : 8160 < n
          · refine C.regionAny 23 ((fun v w => v = .slice ao29 E.length c29) :: (fun v w => v = strV E) :: (fun v w => v = keyV key) :: (fun v w => v = strV info) :: (fun v w => v = .int .i64 n) :: (fun v w => Rep w v E) :: (fun v w => v = strV E) :: (fun v w => v = .bool true) :: (fun v w => v = .bool true) :: (fun v w => v = .int .i64 n) :: (fun v w => v = .bool false) :: (fun v w => v = .bool false) :: (fun v w => v = .int .i64 n) :: (fun v w => v = .bool true) :: (fun v w => v = .bool true) :: (fun v w => v = .bool true) :: (fun v w => v = undef) :: (fun v w => v = undef) :: (fun v w => v = undef) :: (fun v w => v = undef) :: (fun v w => v = .bool true) :: (fun v w => v = .bool true) :: (fun v w => v = .bool true) :: []) [(1, strV info), (2, .int .i64 n), (3, .pointer (some ⟨g3, 0, none⟩)), (8, .slice ao29 E.length c29)] [] (Sub.cons (rfl) (Sub.cons (rfl) (Sub.cons (rfl) (Sub.cons (rfl) (Sub.nil))))) (Sub.nil) (Sub.cons (rfl) (Sub.cons (rfl) (Sub.cons (rfl) (Sub.cons (rfl) (Sub.nil))))) (by kernel_rfl) rfl rfl rfl (And.intro (fun _ _ _ h _ => h) (And.intro (fun _ _ _ h _ => h) (And.intro (fun _ _ _ h _ => h) (And.intro (fun _ _ _ h _ => h) (And.intro (fun _ _ _ h _ => h) (And.intro (fun _ _ _ h g => h.ext g) (And.intro (fun _ _ _ h _ => h) (And.intro (fun _ _ _ h _ => h) (And.intro (fun _ _ _ h _ => h) (And.intro (fun _ _ _ h _ => h) (And.intro (fun _ _ _ h _ => h) (And.intro (fun _ _ _ h _ => h) (And.intro (fun _ _ _ h _ => h) (And.intro (fun _ _ _ h _ => h) (And.intro (fun _ _ _ h _ => h) (And.intro (fun _ _ _ h _ => h) (And.intro (fun _ _ _ h _ => h) (And.intro (fun _ _ _ h _ => h) (And.intro (fun _ _ _ h _ => h) (And.intro (fun _ _ _ h _ => h) (And.intro (fun _ _ _ h _ => h) (And.intro (fun _ _ _ h _ => h) (And.intro (fun _ _ _ h _ => h) (trivial)))))))))))))))))))))))) ?_ ?_
            · refine And.intro ?_ ?_
              · intro L_ w30 hX_ hs_ hf_ hd_
                refine W.step [(8, _)] (Sub.cons (hs_ _ _ rfl) (Sub.refl _)) ?_
                refine W.move rfl rfl ?_
                refine W.nil ?_
                exact At.step (Ext.refl _) rfl
              refine And.intro ?_ ?_
              · intro L_ w30 hX_ hs_ hf_ hd_
                obtain ⟨v0, e0, r0⟩ := hd_ 0 rfl
                obtain rfl : (.slice ao29 E.length c29 : Value) = v0 := Eq.symm r0
                refine W.step [(30, _)] (Sub.cons e0 (Sub.refl _)) ?_
                refine W.bytesStr Try.underlying23 Try.underlying5 Try.underlying9 rfl (Sl.ext hS29 hX_) rfl ?_
                refine W.nil ?_
                exact At.step (Ext.refl _) rfl
              refine And.intro ?_ ?_
              · intro L_ w30 hX_ hs_ hf_ hd_
                refine W.step [(3, _)] (Sub.cons (hs_ _ _ rfl) (Sub.refl _)) ?_
                refine W.loadA rfl ((hB3.ext hX_).cells (o := 0)) Try.underlying25 rfl (by rw [List.drop_zero, List.length_map, hk]; kernel_rfl) rfl ?_
                refine W.nil ?_
                exact At.step (Ext.refl _) rfl
              refine And.intro ?_ ?_
              · intro L_ w30 hX_ hs_ hf_ hd_
                refine W.step [(1, _)] (Sub.cons (hs_ _ _ rfl) (Sub.refl _)) ?_
                refine W.move rfl rfl ?_
                refine W.nil ?_
                exact At.step (Ext.refl _) rfl
              refine And.intro ?_ ?_
              · intro L_ w30 hX_ hs_ hf_ hd_
                refine W.step [(2, _)] (Sub.cons (hs_ _ _ rfl) (Sub.refl _)) ?_
                refine W.move rfl rfl ?_
                refine W.nil ?_
                exact At.step (Ext.refl _) rfl
              refine And.intro ?_ ?_
              · intro L_ w30 hX_ hs_ hf_ hd_
                obtain ⟨v2, e2, r2⟩ := hd_ 2 rfl
                obtain rfl : (keyV key : Value) = v2 := Eq.symm r2
                obtain ⟨v3, e3, r3⟩ := hd_ 3 rfl
                obtain rfl : (strV info : Value) = v3 := Eq.symm r3
                obtain ⟨v4, e4, r4⟩ := hd_ 4 rfl
                obtain rfl : (.int .i64 n : Value) = v4 := Eq.symm r4
                refine W.step [(32, _), (33, _), (34, _)] (Sub.cons e2 (Sub.cons e3 (Sub.cons e4 (Sub.refl _)))) ?_
                refine W.call Try.call27 rfl (Derive.RExpand_ok key info n _ hk hn (by omega)) rfl ?_
                rintro v35 w35 ⟨⟨ao35, c35, rfl, hS35, _⟩, hX35⟩
                refine W.nil ?_
                exact At.step hX35 ⟨_, _, by rw [hE], by rw [hE]; exact hS35⟩
              refine And.intro ?_ ?_
              · intro L_ w30 hX_ hs_ hf_ hd_
                obtain ⟨v5, e5, r5⟩ := hd_ 5 rfl
                obtain ⟨ao35, c35, rfl, hS35⟩ := r5
                refine W.step [(35, _)] (Sub.cons e5 (Sub.refl _)) ?_
                refine W.bytesStr Try.underlying23 Try.underlying5 Try.underlying9 rfl hS35 rfl ?_
                refine W.nil ?_
                exact At.step (Ext.refl _) rfl
              refine And.intro ?_ ?_
              · intro L_ w30 hX_ hs_ hf_ hd_
                obtain ⟨v1, e1, r1⟩ := hd_ 1 rfl
                obtain rfl : (strV E : Value) = v1 := Eq.symm r1
                obtain ⟨v6, e6, r6⟩ := hd_ 6 rfl
                obtain rfl : (strV E : Value) = v6 := Eq.symm r6
                refine W.step [(31, _), (36, _)] (Sub.cons e1 (Sub.cons e6 (Sub.refl _))) ?_
                refine W.eqlStr (a := E) (b := E) rfl rfl rfl ?_
                refine W.eqv (bT (rfl)) ?_
                refine W.nil ?_
                exact At.step (Ext.refl _) rfl
              refine And.intro ?_ ?_
              · intro L_ w30 hX_ hs_ hf_ hd_
                obtain ⟨v7, e7, r7⟩ := hd_ 7 rfl
                obtain rfl : (.bool true : Value) = v7 := Eq.symm r7
                refine W.step [(37, _)] (Sub.cons e7 (Sub.refl _)) ?_
                refine W.move rfl rfl ?_
                refine W.nil ?_
                exact At.step (Ext.refl _) rfl
              refine And.intro ?_ ?_
              · intro L_ w30 hX_ hs_ hf_ hd_
                obtain ⟨v8, e8, r8⟩ := hd_ 8 rfl
                obtain rfl : (.bool true : Value) = v8 := Eq.symm r8
                refine W.step [(2, _), (38, _)] (Sub.cons (hs_ _ _ rfl) (Sub.cons e8 (Sub.refl _))) ?_
                refine W.wants rfl rfl rfl rfl ?_
                refine W.move rfl rfl ?_
                refine W.nil ?_
                exact At.step (Ext.refl _) rfl
              refine And.intro ?_ ?_
              · intro L_ w30 hX_ hs_ hf_ hd_
                obtain ⟨v9, e9, r9⟩ := hd_ 9 rfl
                obtain rfl : (.int .i64 n : Value) = v9 := Eq.symm r9
                obtain ⟨v8, e8, r8⟩ := hd_ 8 rfl
                obtain rfl : (.bool true : Value) = v8 := Eq.symm r8
                refine W.step [(39, _), (38, _)] (Sub.cons e9 (Sub.cons e8 (Sub.refl _))) ?_
                refine W.wants rfl rfl rfl rfl ?_
                refine W.lssI rfl rfl rfl ?_
                refine W.eqv (bF (by omega)) ?_
                refine W.nil ?_
                exact At.step (Ext.refl _) rfl
              refine And.intro ?_ ?_
              · intro L_ w30 hX_ hs_ hf_ hd_
                obtain ⟨v10, e10, r10⟩ := hd_ 10 rfl
                obtain rfl : (.bool false : Value) = v10 := Eq.symm r10
                obtain ⟨v8, e8, r8⟩ := hd_ 8 rfl
                obtain rfl : (.bool true : Value) = v8 := Eq.symm r8
                refine W.step [(40, _), (38, _)] (Sub.cons e10 (Sub.cons e8 (Sub.refl _))) ?_
                refine W.wants rfl rfl rfl rfl ?_
                refine W.move rfl rfl ?_
                refine W.nil ?_
                exact At.step (Ext.refl _) rfl
              refine And.intro ?_ ?_
              · intro L_ w30 hX_ hs_ hf_ hd_
                obtain ⟨v11, e11, r11⟩ := hd_ 11 rfl
                obtain rfl : (.bool false : Value) = v11 := Eq.symm r11
                refine W.step [(2, _), (41, _)] (Sub.cons (hs_ _ _ rfl) (Sub.cons e11 (Sub.refl _))) ?_
                refine W.wants rfl rfl rfl rfl ?_
                refine W.move rfl rfl ?_
                refine W.nil ?_
                exact At.step (Ext.refl _) rfl
              refine And.intro ?_ ?_
              · intro L_ w30 hX_ hs_ hf_ hd_
                obtain ⟨v12, e12, r12⟩ := hd_ 12 rfl
                obtain rfl : (.int .i64 n : Value) = v12 := Eq.symm r12
                obtain ⟨v11, e11, r11⟩ := hd_ 11 rfl
                obtain rfl : (.bool false : Value) = v11 := Eq.symm r11
                refine W.step [(42, _), (41, _)] (Sub.cons e12 (Sub.cons e11 (Sub.refl _))) ?_
                refine W.wants rfl rfl rfl rfl ?_
                refine W.gtrI rfl rfl rfl ?_
                refine W.eqv (bT (by omega)) ?_
                refine W.nil ?_
                exact At.step (Ext.refl _) rfl
              refine And.intro ?_ ?_
              · intro L_ w30 hX_ hs_ hf_ hd_
                obtain ⟨v11, e11, r11⟩ := hd_ 11 rfl
                obtain rfl : (.bool false : Value) = v11 := Eq.symm r11
                obtain ⟨v13, e13, r13⟩ := hd_ 13 rfl
                obtain rfl : (.bool true : Value) = v13 := Eq.symm r13
                obtain ⟨v8, e8, r8⟩ := hd_ 8 rfl
                obtain rfl : (.bool true : Value) = v8 := Eq.symm r8
                refine W.step [(41, _), (43, _), (38, _)] (Sub.cons e11 (Sub.cons e13 (Sub.cons e8 (Sub.refl _)))) ?_
                refine W.wants rfl rfl rfl rfl ?_
                refine W.pickF rfl rfl rfl ?_
                refine W.nil ?_
                exact At.step (Ext.refl _) rfl
              refine And.intro ?_ ?_
              · intro L_ w30 hX_ hs_ hf_ hd_
                obtain ⟨v14, e14, r14⟩ := hd_ 14 rfl
                obtain rfl : (.bool true : Value) = v14 := Eq.symm r14
                obtain ⟨v8, e8, r8⟩ := hd_ 8 rfl
                obtain rfl : (.bool true : Value) = v8 := Eq.symm r8
                refine W.step [(44, _), (38, _)] (Sub.cons e14 (Sub.cons e8 (Sub.refl _))) ?_
                refine W.wants rfl rfl rfl rfl ?_
                refine W.move rfl rfl ?_
                refine W.nil ?_
                exact At.step (Ext.refl _) rfl
              refine And.intro ?_ ?_
              · intro L_ w30 hX_ hs_ hf_ hd_
                obtain ⟨v15, e15, r15⟩ := hd_ 15 rfl
                obtain rfl : (.bool true : Value) = v15 := Eq.symm r15
                refine W.step [(45, _)] (Sub.cons e15 (Sub.refl _)) ?_
                refine W.skips rfl rfl rfl rfl rfl rfl ?_
                refine W.nil ?_
                exact At.step (Ext.refl _) rfl
              refine And.intro ?_ ?_
              · intro L_ w30 hX_ hs_ hf_ hd_
                obtain ⟨v15, e15, r15⟩ := hd_ 15 rfl
                obtain rfl : (.bool true : Value) = v15 := Eq.symm r15
                refine W.step [(45, _)] (Sub.cons e15 (Sub.refl _)) ?_
                refine W.skips rfl rfl rfl rfl rfl rfl ?_
                refine W.nil ?_
                exact At.step (Ext.refl _) rfl
              refine And.intro ?_ ?_
              · intro L_ w30 hX_ hs_ hf_ hd_
                obtain ⟨v15, e15, r15⟩ := hd_ 15 rfl
                obtain rfl : (.bool true : Value) = v15 := Eq.symm r15
                refine W.step [(45, _)] (Sub.cons e15 (Sub.refl _)) ?_
                refine W.skips rfl rfl rfl rfl rfl rfl ?_
                refine W.nil ?_
                exact At.step (Ext.refl _) rfl
              refine And.intro ?_ ?_
              · intro L_ w30 hX_ hs_ hf_ hd_
                obtain ⟨v15, e15, r15⟩ := hd_ 15 rfl
                obtain rfl : (.bool true : Value) = v15 := Eq.symm r15
                refine W.step [(45, _)] (Sub.cons e15 (Sub.refl _)) ?_
                refine W.skips rfl rfl rfl rfl rfl rfl ?_
                refine W.nil ?_
                exact At.step (Ext.refl _) rfl
              refine And.intro ?_ ?_
              · intro L_ w30 hX_ hs_ hf_ hd_
                obtain ⟨v15, e15, r15⟩ := hd_ 15 rfl
                obtain rfl : (.bool true : Value) = v15 := Eq.symm r15
                obtain ⟨v19, e19, r19⟩ := hd_ 19 rfl
                obtain rfl : (undef : Value) = v19 := Eq.symm r19
                obtain ⟨v8, e8, r8⟩ := hd_ 8 rfl
                obtain rfl : (.bool true : Value) = v8 := Eq.symm r8
                refine W.step [(45, _), (49, _), (38, _)] (Sub.cons e15 (Sub.cons e19 (Sub.cons e8 (Sub.refl _)))) ?_
                refine W.wants rfl rfl rfl rfl ?_
                refine W.pickT rfl rfl rfl ?_
                refine W.nil ?_
                exact At.step (Ext.refl _) rfl
              refine And.intro ?_ ?_
              · intro L_ w30 hX_ hs_ hf_ hd_
                obtain ⟨v8, e8, r8⟩ := hd_ 8 rfl
                obtain rfl : (.bool true : Value) = v8 := Eq.symm r8
                obtain ⟨v20, e20, r20⟩ := hd_ 20 rfl
                obtain rfl : (.bool true : Value) = v20 := Eq.symm r20
                refine W.step [(38, _), (50, _)] (Sub.cons e8 (Sub.cons e20 (Sub.refl _))) ?_
                refine W.pickT rfl rfl rfl ?_
                refine W.nil ?_
                exact At.step (Ext.refl _) rfl
              refine And.intro ?_ ?_
              · intro L_ w30 hX_ hs_ hf_ hd_
                obtain ⟨v21, e21, r21⟩ := hd_ 21 rfl
                obtain rfl : (.bool true : Value) = v21 := Eq.symm r21
                refine W.step [(51, _)] (Sub.cons e21 (Sub.refl _)) ?_
                refine W.assign rfl rfl ?_
                refine W.nil ?_
                exact At.step (Ext.refl _) rfl
              exact trivial
            · intro L_ w30 hX5 hs_ hv_
              obtain ⟨v22, e22, r22⟩ := hv_ 22 (by decide)
              obtain rfl : (.bool true : Value) = v22 := Eq.symm r22
              refine W.weaken (l' := [(6, _), (1, _), (2, _), (3, _), (8, _)]) (Sub.cons e22 (Sub.cons (hs_ _ _ rfl) (Sub.cons (hs_ _ _ rfl) (Sub.cons (hs_ _ _ rfl) (Sub.cons (hs_ _ _ rfl) (Sub.nil)))))) ?_
              refine W.nil ?_
              refine At.thenCode ?_
              refine C.ret ?_
              refine At.ret1 Try.results11 rfl ?_
              first | exact ⟨rfl, Ext.below (((hX3.ext hX9).ext hX29).ext hX5)⟩ | exact ⟨rfl, Ext.below (hX3.ext hX9)⟩
          · refine C.regionAny 23 ((fun v w => v = .slice ao29 E.length c29) :: (fun v w => v = strV E) :: (fun v w => v = keyV key) :: (fun v w => v = strV info) :: (fun v w => v = .int .i64 n) :: (fun v w => Rep w v E) :: (fun v w => v = strV E) :: (fun v w => v = .bool true) :: (fun v w => v = .bool true) :: (fun v w => v = .int .i64 n) :: (fun v w => v = .bool false) :: (fun v w => v = .bool false) :: (fun v w => v = .int .i64 n) :: (fun v w => v = .bool false) :: (fun v w => v = .bool false) :: (fun v w => v = .bool false) :: (fun v w => v = .slice ao29 E.length c29) :: (fun v w => v = .int .i64 (E.length : Int)) :: (fun v w => v = .int .i64 n) :: (fun v w => v = .bool true) :: (fun v w => v = .bool true) :: (fun v w => v = .bool true) :: (fun v w => v = .bool true) :: []) [(1, strV info), (2, .int .i64 n), (3, .pointer (some ⟨g3, 0, none⟩)), (8, .slice ao29 E.length c29)] [] (Sub.cons (rfl) (Sub.cons (rfl) (Sub.cons (rfl) (Sub.cons (rfl) (Sub.nil))))) (Sub.nil) (Sub.cons (rfl) (Sub.cons (rfl) (Sub.cons (rfl) (Sub.cons (rfl) (Sub.nil))))) (by kernel_rfl) rfl rfl rfl (And.intro (fun _ _ _ h _ => h) (And.intro (fun _ _ _ h _ => h) (And.intro (fun _ _ _ h _ => h) (And.intro (fun _ _ _ h _ => h) (And.intro (fun _ _ _ h _ => h) (And.intro (fun _ _ _ h g => h.ext g) (And.intro (fun _ _ _ h _ => h) (And.intro (fun _ _ _ h _ => h) (And.intro (fun _ _ _ h _ => h) (And.intro (fun _ _ _ h _ => h) (And.intro (fun _ _ _ h _ => h) (And.intro (fun _ _ _ h _ => h) (And.intro (fun _ _ _ h _ => h) (And.intro (fun _ _ _ h _ => h) (And.intro (fun _ _ _ h _ => h) (And.intro (fun _ _ _ h _ => h) (And.intro (fun _ _ _ h _ => h) (And.intro (fun _ _ _ h _ => h) (And.intro (fun _ _ _ h _ => h) (And.intro (fun _ _ _ h _ => h) (And.intro (fun _ _ _ h _ => h) (And.intro (fun _ _ _ h _ => h) (And.intro (fun _ _ _ h _ => h) (trivial)))))))))))))))))))))))) ?_ ?_
            · refine And.intro ?_ ?_
              · intro L_ w30 hX_ hs_ hf_ hd_
                refine W.step [(8, _)] (Sub.cons (hs_ _ _ rfl) (Sub.refl _)) ?_
                refine W.move rfl rfl ?_
                refine W.nil ?_
                exact At.step (Ext.refl _) rfl
              refine And.intro ?_ ?_
              · intro L_ w30 hX_ hs_ hf_ hd_
                obtain ⟨v0, e0, r0⟩ := hd_ 0 rfl
                obtain rfl : (.slice ao29 E.length c29 : Value) = v0 := Eq.symm r0
                refine W.step [(30, _)] (Sub.cons e0 (Sub.refl _)) ?_
                refine W.bytesStr Try.underlying23 Try.underlying5 Try.underlying9 rfl (Sl.ext hS29 hX_) rfl ?_
                refine W.nil ?_
                exact At.step (Ext.refl _) rfl
              refine And.intro ?_ ?_
              · intro L_ w30 hX_ hs_ hf_ hd_
                refine W.step [(3, _)] (Sub.cons (hs_ _ _ rfl) (Sub.refl _)) ?_
                refine W.loadA rfl ((hB3.ext hX_).cells (o := 0)) Try.underlying25 rfl (by rw [List.drop_zero, List.length_map, hk]; kernel_rfl) rfl ?_
                refine W.nil ?_
                exact At.step (Ext.refl _) rfl
              refine And.intro ?_ ?_
              · intro L_ w30 hX_ hs_ hf_ hd_
                refine W.step [(1, _)] (Sub.cons (hs_ _ _ rfl) (Sub.refl _)) ?_
                refine W.move rfl rfl ?_
                refine W.nil ?_
                exact At.step (Ext.refl _) rfl
              refine And.intro ?_ ?_
              · intro L_ w30 hX_ hs_ hf_ hd_
                refine W.step [(2, _)] (Sub.cons (hs_ _ _ rfl) (Sub.refl _)) ?_
                refine W.move rfl rfl ?_
                refine W.nil ?_
                exact At.step (Ext.refl _) rfl
              refine And.intro ?_ ?_
              · intro L_ w30 hX_ hs_ hf_ hd_
                obtain ⟨v2, e2, r2⟩ := hd_ 2 rfl
                obtain rfl : (keyV key : Value) = v2 := Eq.symm r2
                obtain ⟨v3, e3, r3⟩ := hd_ 3 rfl
                obtain rfl : (strV info : Value) = v3 := Eq.symm r3
                obtain ⟨v4, e4, r4⟩ := hd_ 4 rfl
                obtain rfl : (.int .i64 n : Value) = v4 := Eq.symm r4
                refine W.step [(32, _), (33, _), (34, _)] (Sub.cons e2 (Sub.cons e3 (Sub.cons e4 (Sub.refl _)))) ?_
                refine W.call Try.call27 rfl (Derive.RExpand_ok key info n _ hk hn (by omega)) rfl ?_
                rintro v35 w35 ⟨⟨ao35, c35, rfl, hS35, _⟩, hX35⟩
                refine W.nil ?_
                exact At.step hX35 ⟨_, _, by rw [hE], by rw [hE]; exact hS35⟩
              refine And.intro ?_ ?_
              · intro L_ w30 hX_ hs_ hf_ hd_
                obtain ⟨v5, e5, r5⟩ := hd_ 5 rfl
                obtain ⟨ao35, c35, rfl, hS35⟩ := r5
                refine W.step [(35, _)] (Sub.cons e5 (Sub.refl _)) ?_
                refine W.bytesStr Try.underlying23 Try.underlying5 Try.underlying9 rfl hS35 rfl ?_
                refine W.nil ?_
                exact At.step (Ext.refl _) rfl
              refine And.intro ?_ ?_
              · intro L_ w30 hX_ hs_ hf_ hd_
                obtain ⟨v1, e1, r1⟩ := hd_ 1 rfl
                obtain rfl : (strV E : Value) = v1 := Eq.symm r1
                obtain ⟨v6, e6, r6⟩ := hd_ 6 rfl
                obtain rfl : (strV E : Value) = v6 := Eq.symm r6
                refine W.step [(31, _), (36, _)] (Sub.cons e1 (Sub.cons e6 (Sub.refl _))) ?_
                refine W.eqlStr (a := E) (b := E) rfl rfl rfl ?_
                refine W.eqv (bT (rfl)) ?_
                refine W.nil ?_
                exact At.step (Ext.refl _) rfl
              refine And.intro ?_ ?_
              · intro L_ w30 hX_ hs_ hf_ hd_
                obtain ⟨v7, e7, r7⟩ := hd_ 7 rfl
                obtain rfl : (.bool true : Value) = v7 := Eq.symm r7
                refine W.step [(37, _)] (Sub.cons e7 (Sub.refl _)) ?_
                refine W.move rfl rfl ?_
                refine W.nil ?_
                exact At.step (Ext.refl _) rfl
              refine And.intro ?_ ?_
              · intro L_ w30 hX_ hs_ hf_ hd_
                obtain ⟨v8, e8, r8⟩ := hd_ 8 rfl
                obtain rfl : (.bool true : Value) = v8 := Eq.symm r8
                refine W.step [(2, _), (38, _)] (Sub.cons (hs_ _ _ rfl) (Sub.cons e8 (Sub.refl _))) ?_
                refine W.wants rfl rfl rfl rfl ?_
                refine W.move rfl rfl ?_
                refine W.nil ?_
                exact At.step (Ext.refl _) rfl
              refine And.intro ?_ ?_
              · intro L_ w30 hX_ hs_ hf_ hd_
                obtain ⟨v9, e9, r9⟩ := hd_ 9 rfl
                obtain rfl : (.int .i64 n : Value) = v9 := Eq.symm r9
                obtain ⟨v8, e8, r8⟩ := hd_ 8 rfl
                obtain rfl : (.bool true : Value) = v8 := Eq.symm r8
                refine W.step [(39, _), (38, _)] (Sub.cons e9 (Sub.cons e8 (Sub.refl _))) ?_
                refine W.wants rfl rfl rfl rfl ?_
                refine W.lssI rfl rfl rfl ?_
                refine W.eqv (bF (by omega)) ?_
                refine W.nil ?_
                exact At.step (Ext.refl _) rfl
              refine And.intro ?_ ?_
              · intro L_ w30 hX_ hs_ hf_ hd_
                obtain ⟨v10, e10, r10⟩ := hd_ 10 rfl
                obtain rfl : (.bool false : Value) = v10 := Eq.symm r10
                obtain ⟨v8, e8, r8⟩ := hd_ 8 rfl
                obtain rfl : (.bool true : Value) = v8 := Eq.symm r8
                refine W.step [(40, _), (38, _)] (Sub.cons e10 (Sub.cons e8 (Sub.refl _))) ?_
                refine W.wants rfl rfl rfl rfl ?_
                refine W.move rfl rfl ?_
                refine W.nil ?_
                exact At.step (Ext.refl _) rfl
              refine And.intro ?_ ?_
              · intro L_ w30 hX_ hs_ hf_ hd_
                obtain ⟨v11, e11, r11⟩ := hd_ 11 rfl
                obtain rfl : (.bool false : Value) = v11 := Eq.symm r11
                refine W.step [(2, _), (41, _)] (Sub.cons (hs_ _ _ rfl) (Sub.cons e11 (Sub.refl _))) ?_
                refine W.wants rfl rfl rfl rfl ?_
                refine W.move rfl rfl ?_
                refine W.nil ?_
                exact At.step (Ext.refl _) rfl
              refine And.intro ?_ ?_
              · intro L_ w30 hX_ hs_ hf_ hd_
                obtain ⟨v12, e12, r12⟩ := hd_ 12 rfl
                obtain rfl : (.int .i64 n : Value) = v12 := Eq.symm r12
                obtain ⟨v11, e11, r11⟩ := hd_ 11 rfl
                obtain rfl : (.bool false : Value) = v11 := Eq.symm r11
                refine W.step [(42, _), (41, _)] (Sub.cons e12 (Sub.cons e11 (Sub.refl _))) ?_
                refine W.wants rfl rfl rfl rfl ?_
                refine W.gtrI rfl rfl rfl ?_
                refine W.eqv (bF (by omega)) ?_
                refine W.nil ?_
                exact At.step (Ext.refl _) rfl
              refine And.intro ?_ ?_
              · intro L_ w30 hX_ hs_ hf_ hd_
                obtain ⟨v11, e11, r11⟩ := hd_ 11 rfl
                obtain rfl : (.bool false : Value) = v11 := Eq.symm r11
                obtain ⟨v13, e13, r13⟩ := hd_ 13 rfl
                obtain rfl : (.bool false : Value) = v13 := Eq.symm r13
                obtain ⟨v8, e8, r8⟩ := hd_ 8 rfl
                obtain rfl : (.bool true : Value) = v8 := Eq.symm r8
                refine W.step [(41, _), (43, _), (38, _)] (Sub.cons e11 (Sub.cons e13 (Sub.cons e8 (Sub.refl _)))) ?_
                refine W.wants rfl rfl rfl rfl ?_
                refine W.pickF rfl rfl rfl ?_
                refine W.nil ?_
                exact At.step (Ext.refl _) rfl
              refine And.intro ?_ ?_
              · intro L_ w30 hX_ hs_ hf_ hd_
                obtain ⟨v14, e14, r14⟩ := hd_ 14 rfl
                obtain rfl : (.bool false : Value) = v14 := Eq.symm r14
                obtain ⟨v8, e8, r8⟩ := hd_ 8 rfl
                obtain rfl : (.bool true : Value) = v8 := Eq.symm r8
                refine W.step [(44, _), (38, _)] (Sub.cons e14 (Sub.cons e8 (Sub.refl _))) ?_
                refine W.wants rfl rfl rfl rfl ?_
                refine W.move rfl rfl ?_
                refine W.nil ?_
                exact At.step (Ext.refl _) rfl
              refine And.intro ?_ ?_
              · intro L_ w30 hX_ hs_ hf_ hd_
                obtain ⟨v15, e15, r15⟩ := hd_ 15 rfl
                obtain rfl : (.bool false : Value) = v15 := Eq.symm r15
                refine W.step [(8, _), (45, _)] (Sub.cons (hs_ _ _ rfl) (Sub.cons e15 (Sub.refl _))) ?_
                refine W.wants rfl rfl rfl rfl ?_
                refine W.move rfl rfl ?_
                refine W.nil ?_
                exact At.step (Ext.refl _) rfl
              refine And.intro ?_ ?_
              · intro L_ w30 hX_ hs_ hf_ hd_
                obtain ⟨v16, e16, r16⟩ := hd_ 16 rfl
                obtain rfl : (.slice ao29 E.length c29 : Value) = v16 := Eq.symm r16
                obtain ⟨v15, e15, r15⟩ := hd_ 15 rfl
                obtain rfl : (.bool false : Value) = v15 := Eq.symm r15
                refine W.step [(46, _), (45, _)] (Sub.cons e16 (Sub.cons e15 (Sub.refl _))) ?_
                refine W.wants rfl rfl rfl rfl ?_
                refine W.lenS rfl Try.underlying23 rfl ?_
                refine W.nil ?_
                exact At.step (Ext.refl _) rfl
              refine And.intro ?_ ?_
              · intro L_ w30 hX_ hs_ hf_ hd_
                obtain ⟨v15, e15, r15⟩ := hd_ 15 rfl
                obtain rfl : (.bool false : Value) = v15 := Eq.symm r15
                refine W.step [(2, _), (45, _)] (Sub.cons (hs_ _ _ rfl) (Sub.cons e15 (Sub.refl _))) ?_
                refine W.wants rfl rfl rfl rfl ?_
                refine W.move rfl rfl ?_
                refine W.nil ?_
                exact At.step (Ext.refl _) rfl
              refine And.intro ?_ ?_
              · intro L_ w30 hX_ hs_ hf_ hd_
                obtain ⟨v17, e17, r17⟩ := hd_ 17 rfl
                obtain rfl : (.int .i64 (E.length : Int) : Value) = v17 := Eq.symm r17
                obtain ⟨v18, e18, r18⟩ := hd_ 18 rfl
                obtain rfl : (.int .i64 n : Value) = v18 := Eq.symm r18
                obtain ⟨v15, e15, r15⟩ := hd_ 15 rfl
                obtain rfl : (.bool false : Value) = v15 := Eq.symm r15
                refine W.step [(47, _), (48, _), (45, _)] (Sub.cons e17 (Sub.cons e18 (Sub.cons e15 (Sub.refl _)))) ?_
                refine W.wants rfl rfl rfl rfl ?_
                refine W.eqlI rfl rfl rfl ?_
                refine W.eqv (bT (hl29 hn1 hn2)) ?_
                refine W.nil ?_
                exact At.step (Ext.refl _) rfl
              refine And.intro ?_ ?_
              · intro L_ w30 hX_ hs_ hf_ hd_
                obtain ⟨v15, e15, r15⟩ := hd_ 15 rfl
                obtain rfl : (.bool false : Value) = v15 := Eq.symm r15
                obtain ⟨v19, e19, r19⟩ := hd_ 19 rfl
                obtain rfl : (.bool true : Value) = v19 := Eq.symm r19
                obtain ⟨v8, e8, r8⟩ := hd_ 8 rfl
                obtain rfl : (.bool true : Value) = v8 := Eq.symm r8
                refine W.step [(45, _), (49, _), (38, _)] (Sub.cons e15 (Sub.cons e19 (Sub.cons e8 (Sub.refl _)))) ?_
                refine W.wants rfl rfl rfl rfl ?_
                refine W.pickF rfl rfl rfl ?_
                refine W.nil ?_
                exact At.step (Ext.refl _) rfl
              refine And.intro ?_ ?_
              · intro L_ w30 hX_ hs_ hf_ hd_
                obtain ⟨v8, e8, r8⟩ := hd_ 8 rfl
                obtain rfl : (.bool true : Value) = v8 := Eq.symm r8
                obtain ⟨v20, e20, r20⟩ := hd_ 20 rfl
                obtain rfl : (.bool true : Value) = v20 := Eq.symm r20
                refine W.step [(38, _), (50, _)] (Sub.cons e8 (Sub.cons e20 (Sub.refl _))) ?_
                refine W.pickT rfl rfl rfl ?_
                refine W.nil ?_
                exact At.step (Ext.refl _) rfl
              refine And.intro ?_ ?_
              · intro L_ w30 hX_ hs_ hf_ hd_
                obtain ⟨v21, e21, r21⟩ := hd_ 21 rfl
                obtain rfl : (.bool true : Value) = v21 := Eq.symm r21
                refine W.step [(51, _)] (Sub.cons e21 (Sub.refl _)) ?_
                refine W.assign rfl rfl ?_
                refine W.nil ?_
                exact At.step (Ext.refl _) rfl
              exact trivial
            · intro L_ w30 hX5 hs_ hv_
              obtain ⟨v22, e22, r22⟩ := hv_ 22 (by decide)
              obtain rfl : (.bool true : Value) = v22 := Eq.symm r22
              refine W.weaken (l' := [(6, _), (1, _), (2, _), (3, _), (8, _)]) (Sub.cons e22 (Sub.cons (hs_ _ _ rfl) (Sub.cons (hs_ _ _ rfl) (Sub.cons (hs_ _ _ rfl) (Sub.cons (hs_ _ _ rfl) (Sub.nil)))))) ?_
              refine W.nil ?_
              refine At.thenCode ?_
              refine C.ret ?_
              refine At.ret1 Try.results11 rfl ?_
              first | exact ⟨rfl, Ext.below (((hX3.ext hX9).ext hX29).ext hX5)⟩ | exact ⟨rfl, Ext.below (hX3.ext hX9)⟩
    · refine W.skips rfl rfl rfl rfl rfl rfl ?_
      refine W.skips rfl rfl rfl rfl rfl rfl ?_
      refine W.wants rfl rfl rfl rfl ?_
      refine W.pickF rfl rfl rfl ?_
      refine W.pickF rfl rfl rfl ?_
      refine W.nil ?_
      refine At.thenCode ?_
      refine C.condF rfl ?_
      refine C.skip ?_
      refine At.thenCode ?_
      refine C.seq ?_
      refine C.region ?_
      refine W.loadA rfl (hB3.cells (o := 0)) Try.underlying25 rfl (by rw [List.drop_zero, List.length_map, hk]; kernel_rfl) rfl ?_
      refine W.move rfl rfl ?_
      refine W.move rfl rfl ?_
      refine W.call Try.call26 rfl (Derive.Expand_ok key info n _ hk hn (by omega)) rfl ?_
      rintro v29 w29 ⟨⟨ao29, c29, rfl, hS29, _⟩, hX29⟩
      have hB3 := hB3.ext hX29
      have hl29 : ¬ n < 1 → ¬ 8160 < n → ((expandV key info n).length : Int) = n := fun h1 h2 => by rw [expandV_length h1 h2]; omega
      obtain ⟨E, hE⟩ : ∃ E, E = expandV key info n := ⟨_, rfl⟩
      rw [← hE] at hS29 hl29 ⊢
      refine W.assign rfl rfl ?_
      refine W.nil ?_
      refine At.thenCode ?_
      refine C.seq ?_
      by_cases hn1 : n < 1
      · refine C.regionAny 23 ((fun v w => v = .slice ao29 E.length c29) :: (fun v w => v = strV E) :: (fun v w => v = keyV key) :: (fun v w => v = strV info) :: (fun v w => v = .int .i64 n) :: (fun v w => Rep w v E) :: (fun v w => v = strV E) :: (fun v w => v = .bool true) :: (fun v w => v = .bool true) :: (fun v w => v = .int .i64 n) :: (fun v w => v = .bool true) :: (fun v w => v = .bool true) :: (fun v w => v = undef) :: (fun v w => v = undef) :: (fun v w => v = .bool true) :: (fun v w => v = .bool true) :: (fun v w => v = undef) :: (fun v w => v = undef) :: (fun v w => v = undef) :: (fun v w => v = undef) :: (fun v w => v = .bool true) :: (fun v w => v = .bool true) :: (fun v w => v = .bool true) :: []) [(1, strV info), (2, .int .i64 n), (3, .pointer (some ⟨g3, 0, none⟩)), (8, .slice ao29 E.length c29)] [] (Sub.cons (rfl) (Sub.cons (rfl) (Sub.cons (rfl) (Sub.cons (rfl) (Sub.nil))))) (Sub.nil) (Sub.cons (rfl) (Sub.cons (rfl) (Sub.cons (rfl) (Sub.cons (rfl) (Sub.nil))))) (by kernel_rfl) rfl rfl rfl (And.intro (fun _ _ _ h _ => h) (And.intro (fun _ _ _ h _ => h) (And.intro (fun _ _ _ h _ => h) (And.intro (fun _ _ _ h _ => h) (And.intro (fun _ _ _ h _ => h) (And.intro (fun _ _ _ h g => h.ext g) (And.intro (fun _ _ _ h _ => h) (And.intro (fun _ _ _ h _ => h) (And.intro (fun _ _ _ h _ => h) (And.intro (fun _ _ _ h _ => h) (And.intro (fun _ _ _ h _ => h) (And.intro (fun _ _ _ h _ => h) (And.intro (fun _ _ _ h _ => h) (And.intro (fun _ _ _ h _ => h) (And.intro (fun _ _ _ h _ => h) (And.intro (fun _ _ _ h _ => h) (And.intro (fun _ _ _ h _ => h) (And.intro (fun _ _ _ h _ => h) (And.intro (fun _ _ _ h _ => h) (And.intro (fun _ _ _ h _ => h) (And.intro (fun _ _ _ h _ => h) (And.intro (fun _ _ _ h _ => h) (And.intro (fun _ _ _ h _ => h) (trivial)))))))))))))))))))))))) ?_ ?_
        · refine And.intro ?_ ?_
          · intro L_ w30 hX_ hs_ hf_ hd_
            refine W.step [(8, _)] (Sub.cons (hs_ _ _ rfl) (Sub.refl _)) ?_
            refine W.move rfl rfl ?_
            refine W.nil ?_
            exact At.step (Ext.refl _) rfl
          refine And.intro ?_ ?_
          · intro L_ w30 hX_ hs_ hf_ hd_
            obtain ⟨v0, e0, r0⟩ := hd_ 0 rfl
            obtain rfl : (.slice ao29 E.length c29 : Value) = v0 := Eq.symm r0
            refine W.step [(30, _)] (Sub.cons e0 (Sub.refl _)) ?_
            refine W.bytesStr Try.underlying23 Try.underlying5 Try.underlying9 rfl (Sl.ext hS29 hX_) rfl ?_
            refine W.nil ?_
            exact At.step (Ext.refl _) rfl
          refine And.intro ?_ ?_
          · intro L_ w30 hX_ hs_ hf_ hd_
            refine W.step [(3, _)] (Sub.cons (hs_ _ _ rfl) (Sub.refl _)) ?_
            refine W.loadA rfl ((hB3.ext hX_).cells (o := 0)) Try.underlying25 rfl (by rw [List.drop_zero, List.length_map, hk]; kernel_rfl) rfl ?_
            refine W.nil ?_
            exact At.step (Ext.refl _) rfl
          refine And.intro ?_ ?_
          · intro L_ w30 hX_ hs_ hf_ hd_
            refine W.step [(1, _)] (Sub.cons (hs_ _ _ rfl) (Sub.refl _)) ?_
            refine W.move rfl rfl ?_
            refine W.nil ?_
            exact At.step (Ext.refl _) rfl
          refine And.intro ?_ ?_
          · intro L_ w30 hX_ hs_ hf_ hd_
            refine W.step [(2, _)] (Sub.cons (hs_ _ _ rfl) (Sub.refl _)) ?_
            refine W.move rfl rfl ?_
            refine W.nil ?_
            exact At.step (Ext.refl _) rfl
          refine And.intro ?_ ?_
          · intro L_ w30 hX_ hs_ hf_ hd_
            obtain ⟨v2, e2, r2⟩ := hd_ 2 rfl
            obtain rfl : (keyV key : Value) = v2 := Eq.symm r2
            obtain ⟨v3, e3, r3⟩ := hd_ 3 rfl
            obtain rfl : (strV info : Value) = v3 := Eq.symm r3
            obtain ⟨v4, e4, r4⟩ := hd_ 4 rfl
            obtain rfl : (.int .i64 n : Value) = v4 := Eq.symm r4
            refine W.step [(32, _), (33, _), (34, _)] (Sub.cons e2 (Sub.cons e3 (Sub.cons e4 (Sub.refl _)))) ?_
            refine W.call Try.call27 rfl (Derive.RExpand_ok key info n _ hk hn (by omega)) rfl ?_
            rintro v35 w35 ⟨⟨ao35, c35, rfl, hS35, _⟩, hX35⟩
            refine W.nil ?_
            exact At.step hX35 ⟨_, _, by rw [hE], by rw [hE]; exact hS35⟩
          refine And.intro ?_ ?_
          · intro L_ w30 hX_ hs_ hf_ hd_
            obtain ⟨v5, e5, r5⟩ := hd_ 5 rfl
            obtain ⟨ao35, c35, rfl, hS35⟩ := r5
            refine W.step [(35, _)] (Sub.cons e5 (Sub.refl _)) ?_
            refine W.bytesStr Try.underlying23 Try.underlying5 Try.underlying9 rfl hS35 rfl ?_
            refine W.nil ?_
            exact At.step (Ext.refl _) rfl
          refine And.intro ?_ ?_
          · intro L_ w30 hX_ hs_ hf_ hd_
            obtain ⟨v1, e1, r1⟩ := hd_ 1 rfl
            obtain rfl : (strV E : Value) = v1 := Eq.symm r1
            obtain ⟨v6, e6, r6⟩ := hd_ 6 rfl
            obtain rfl : (strV E : Value) = v6 := Eq.symm r6
            refine W.step [(31, _), (36, _)] (Sub.cons e1 (Sub.cons e6 (Sub.refl _))) ?_
            refine W.eqlStr (a := E) (b := E) rfl rfl rfl ?_
            refine W.eqv (bT (rfl)) ?_
            refine W.nil ?_
            exact At.step (Ext.refl _) rfl
          refine And.intro ?_ ?_
          · intro L_ w30 hX_ hs_ hf_ hd_
            obtain ⟨v7, e7, r7⟩ := hd_ 7 rfl
            obtain rfl : (.bool true : Value) = v7 := Eq.symm r7
            refine W.step [(37, _)] (Sub.cons e7 (Sub.refl _)) ?_
            refine W.move rfl rfl ?_
            refine W.nil ?_
            exact At.step (Ext.refl _) rfl
          refine And.intro ?_ ?_
          · intro L_ w30 hX_ hs_ hf_ hd_
            obtain ⟨v8, e8, r8⟩ := hd_ 8 rfl
            obtain rfl : (.bool true : Value) = v8 := Eq.symm r8
            refine W.step [(2, _), (38, _)] (Sub.cons (hs_ _ _ rfl) (Sub.cons e8 (Sub.refl _))) ?_
            refine W.wants rfl rfl rfl rfl ?_
            refine W.move rfl rfl ?_
            refine W.nil ?_
            exact At.step (Ext.refl _) rfl
          refine And.intro ?_ ?_
          · intro L_ w30 hX_ hs_ hf_ hd_
            obtain ⟨v9, e9, r9⟩ := hd_ 9 rfl
            obtain rfl : (.int .i64 n : Value) = v9 := Eq.symm r9
            obtain ⟨v8, e8, r8⟩ := hd_ 8 rfl
            obtain rfl : (.bool true : Value) = v8 := Eq.symm r8
            refine W.step [(39, _), (38, _)] (Sub.cons e9 (Sub.cons e8 (Sub.refl _))) ?_
            refine W.wants rfl rfl rfl rfl ?_
            refine W.lssI rfl rfl rfl ?_
            refine W.eqv (bT (by omega)) ?_
            refine W.nil ?_
            exact At.step (Ext.refl _) rfl
          refine And.intro ?_ ?_
          · intro L_ w30 hX_ hs_ hf_ hd_
            obtain ⟨v10, e10, r10⟩ := hd_ 10 rfl
            obtain rfl : (.bool true : Value) = v10 := Eq.symm r10
            obtain ⟨v8, e8, r8⟩ := hd_ 8 rfl
            obtain rfl : (.bool true : Value) = v8 := Eq.symm r8
            refine W.step [(40, _), (38, _)] (Sub.cons e10 (Sub.cons e8 (Sub.refl _))) ?_
            refine W.wants rfl rfl rfl rfl ?_
            refine W.move rfl rfl ?_
            refine W.nil ?_
            exact At.step (Ext.refl _) rfl
          refine And.intro ?_ ?_
          · intro L_ w30 hX_ hs_ hf_ hd_
            obtain ⟨v11, e11, r11⟩ := hd_ 11 rfl
            obtain rfl : (.bool true : Value) = v11 := Eq.symm r11
            refine W.step [(41, _)] (Sub.cons e11 (Sub.refl _)) ?_
            refine W.skips rfl rfl rfl rfl rfl rfl ?_
            refine W.nil ?_
            exact At.step (Ext.refl _) rfl
          refine And.intro ?_ ?_
          · intro L_ w30 hX_ hs_ hf_ hd_
            obtain ⟨v11, e11, r11⟩ := hd_ 11 rfl
            obtain rfl : (.bool true : Value) = v11 := Eq.symm r11
            refine W.step [(41, _)] (Sub.cons e11 (Sub.refl _)) ?_
            refine W.skips rfl rfl rfl rfl rfl rfl ?_
            refine W.nil ?_
            exact At.step (Ext.refl _) rfl
          refine And.intro ?_ ?_
          · intro L_ w30 hX_ hs_ hf_ hd_
            obtain ⟨v11, e11, r11⟩ := hd_ 11 rfl
            obtain rfl : (.bool true : Value) = v11 := Eq.symm r11
            obtain ⟨v13, e13, r13⟩ := hd_ 13 rfl
            obtain rfl : (undef : Value) = v13 := Eq.symm r13
            obtain ⟨v8, e8, r8⟩ := hd_ 8 rfl
            obtain rfl : (.bool true : Value) = v8 := Eq.symm r8
            refine W.step [(41, _), (43, _), (38, _)] (Sub.cons e11 (Sub.cons e13 (Sub.cons e8 (Sub.refl _)))) ?_
            refine W.wants rfl rfl rfl rfl ?_
            refine W.pickT rfl rfl rfl ?_
            refine W.nil ?_
            exact At.step (Ext.refl _) rfl
          refine And.intro ?_ ?_
          · intro L_ w30 hX_ hs_ hf_ hd_
            obtain ⟨v14, e14, r14⟩ := hd_ 14 rfl
            obtain rfl : (.bool true : Value) = v14 := Eq.symm r14
            obtain ⟨v8, e8, r8⟩ := hd_ 8 rfl
            obtain rfl : (.bool true : Value) = v8 := Eq.symm r8
            refine W.step [(44, _), (38, _)] (Sub.cons e14 (Sub.cons e8 (Sub.refl _))) ?_
            refine W.wants rfl rfl rfl rfl ?_
            refine W.move rfl rfl ?_
            refine W.nil ?_
            exact At.step (Ext.refl _) rfl
          refine And.intro ?_ ?_
          · intro L_ w30 hX_ hs_ hf_ hd_
            obtain ⟨v15, e15, r15⟩ := hd_ 15 rfl
            obtain rfl : (.bool true : Value) = v15 := Eq.symm r15
            refine W.step [(45, _)] (Sub.cons e15 (Sub.refl _)) ?_
            refine W.skips rfl rfl rfl rfl rfl rfl ?_
            refine W.nil ?_
            exact At.step (Ext.refl _) rfl
          refine And.intro ?_ ?_
          · intro L_ w30 hX_ hs_ hf_ hd_
            obtain ⟨v15, e15, r15⟩ := hd_ 15 rfl
            obtain rfl : (.bool true : Value) = v15 := Eq.symm r15
            refine W.step [(45, _)] (Sub.cons e15 (Sub.refl _)) ?_
            refine W.skips rfl rfl rfl rfl rfl rfl ?_
            refine W.nil ?_
            exact At.step (Ext.refl _) rfl
          refine And.intro ?_ ?_
          · intro L_ w30 hX_ hs_ hf_ hd_
            obtain ⟨v15, e15, r15⟩ := hd_ 15 rfl
            obtain rfl : (.bool true : Value) = v15 := Eq.symm r15
            refine W.step [(45, _)] (Sub.cons e15 (Sub.refl _)) ?_
            refine W.skips rfl rfl rfl rfl rfl rfl ?_
            refine W.nil ?_
            exact At.step (Ext.refl _) rfl
          refine And.intro ?_ ?_
          · intro L_ w30 hX_ hs_ hf_ hd_
            obtain ⟨v15, e15, r15⟩ := hd_ 15 rfl
            obtain rfl : (.bool true : Value) = v15 := Eq.symm r15
            refine W.step [(45, _)] (Sub.cons e15 (Sub.refl _)) ?_
            refine W.skips rfl rfl rfl rfl rfl rfl ?_
            refine W.nil ?_
            exact At.step (Ext.refl _) rfl
          refine And.intro ?_ ?_
          · intro L_ w30 hX_ hs_ hf_ hd_
            obtain ⟨v15, e15, r15⟩ := hd_ 15 rfl
            obtain rfl : (.bool true : Value) = v15 := Eq.symm r15
            obtain ⟨v19, e19, r19⟩ := hd_ 19 rfl
            obtain rfl : (undef : Value) = v19 := Eq.symm r19
            obtain ⟨v8, e8, r8⟩ := hd_ 8 rfl
            obtain rfl : (.bool true : Value) = v8 := Eq.symm r8
            refine W.step [(45, _), (49, _), (38, _)] (Sub.cons e15 (Sub.cons e19 (Sub.cons e8 (Sub.refl _)))) ?_
            refine W.wants rfl rfl rfl rfl ?_
            refine W.pickT rfl rfl rfl ?_
            refine W.nil ?_
            exact At.step (Ext.refl _) rfl
          refine And.intro ?_ ?_
          · intro L_ w30 hX_ hs_ hf_ hd_
            obtain ⟨v8, e8, r8⟩ := hd_ 8 rfl
            obtain rfl : (.bool true : Value) = v8 := Eq.symm r8
            obtain ⟨v20, e20, r20⟩ := hd_ 20 rfl
            obtain rfl : (.bool true : Value) = v20 := Eq.symm r20
            refine W.step [(38, _), (50, _)] (Sub.cons e8 (Sub.cons e20 (Sub.refl _))) ?_
            refine W.pickT rfl rfl rfl ?_
            refine W.nil ?_
            exact At.step (Ext.refl _) rfl
          refine And.intro ?_ ?_
          · intro L_ w30 hX_ hs_ hf_ hd_
            obtain ⟨v21, e21, r21⟩ := hd_ 21 rfl
            obtain rfl : (.bool true : Value) = v21 := Eq.symm r21
            refine W.step [(51, _)] (Sub.cons e21 (Sub.refl _)) ?_
            refine W.assign rfl rfl ?_
            refine W.nil ?_
            exact At.step (Ext.refl _) rfl
          exact trivial
        · intro L_ w30 hX5 hs_ hv_
          obtain ⟨v22, e22, r22⟩ := hv_ 22 (by decide)
          obtain rfl : (.bool true : Value) = v22 := Eq.symm r22
          refine W.weaken (l' := [(6, _), (1, _), (2, _), (3, _), (8, _)]) (Sub.cons e22 (Sub.cons (hs_ _ _ rfl) (Sub.cons (hs_ _ _ rfl) (Sub.cons (hs_ _ _ rfl) (Sub.cons (hs_ _ _ rfl) (Sub.nil)))))) ?_
          refine W.nil ?_
          refine At.thenCode ?_
          refine C.ret ?_
          refine At.ret1 Try.results11 rfl ?_
          first | exact ⟨rfl, Ext.below (((hX3.ext hX9).ext hX29).ext hX5)⟩ | exact ⟨rfl, Ext.below (hX3.ext hX9)⟩
      · by_cases hn2 : 8160 < n
        · refine C.regionAny 23 ((fun v w => v = .slice ao29 E.length c29) :: (fun v w => v = strV E) :: (fun v w => v = keyV key) :: (fun v w => v = strV info) :: (fun v w => v = .int .i64 n) :: (fun v w => Rep w v E) :: (fun v w => v = strV E) :: (fun v w => v = .bool true) :: (fun v w => v = .bool true) :: (fun v w => v = .int .i64 n) :: (fun v w => v = .bool false) :: (fun v w => v = .bool false) :: (fun v w => v = .int .i64 n) :: (fun v w => v = .bool true) :: (fun v w => v = .bool true) :: (fun v w => v = .bool true) :: (fun v w => v = undef) :: (fun v w => v = undef) :: (fun v w => v = undef) :: (fun v w => v = undef) :: (fun v w => v = .bool true) :: (fun v w => v = .bool true) :: (fun v w => v = .bool true) :: []) [(1, strV info), (2, .int .i64 n), (3, .pointer (some ⟨g3, 0, none⟩)), (8, .slice ao29 E.length c29)] [] (Sub.cons (rfl) (Sub.cons (rfl) (Sub.cons (rfl) (Sub.cons (rfl) (Sub.nil))))) (Sub.nil) (Sub.cons (rfl) (Sub.cons (rfl) (Sub.cons (rfl) (Sub.cons (rfl) (Sub.nil))))) (by kernel_rfl) rfl rfl rfl (And.intro (fun _ _ _ h _ => h) (And.intro (fun _ _ _ h _ => h) (And.intro (fun _ _ _ h _ => h) (And.intro (fun _ _ _ h _ => h) (And.intro (fun _ _ _ h _ => h) (And.intro (fun _ _ _ h g => h.ext g) (And.intro (fun _ _ _ h _ => h) (And.intro (fun _ _ _ h _ => h) (And.intro (fun _ _ _ h _ => h) (And.intro (fun _ _ _ h _ => h) (And.intro (fun _ _ _ h _ => h) (And.intro (fun _ _ _ h _ => h) (And.intro (fun _ _ _ h _ => h) (And.intro (fun _ _ _ h _ => h) (And.intro (fun _ _ _ h _ => h) (And.intro (fun _ _ _ h _ => h) (And.intro (fun _ _ _ h _ => h) (And.intro (fun _ _ _ h _ => h) (And.intro (fun _ _ _ h _ => h) (And.intro (fun _ _ _ h _ => h) (And.intro (fun _ _ _ h _ => h) (And.intro (fun _ _ _ h _ => h) (And.intro (fun _ _ _ h _ => h) (trivial)))))))))))))))))))))))) ?_ ?_
          · refine And.intro ?_ ?_
            · intro L_ w30 hX_ hs_ hf_ hd_
              refine W.step [(8, _)] (Sub.cons (hs_ _ _ rfl) (Sub.refl _)) ?_
              refine W.move rfl rfl ?_
              refine W.nil ?_
              exact At.step (Ext.refl _) rfl
            refine And.intro ?_ ?_
            · intro L_ w30 hX_ hs_ hf_ hd_
              obtain ⟨v0, e0, r0⟩ := hd_ 0 rfl
              obtain rfl : (.slice ao29 E.length c29 : Value) = v0 := Eq.symm r0
              refine W.step [(30, _)] (Sub.cons e0 (Sub.refl _)) ?_
              refine W.bytesStr Try.underlying23 Try.underlying5 Try.underlying9 rfl (Sl.ext hS29 hX_) rfl ?_
              refine W.nil ?_
              exact At.step (Ext.refl _) rfl
            refine And.intro ?_ ?_
            · intro L_ w30 hX_ hs_ hf_ hd_
              refine W.step [(3, _)] (Sub.cons (hs_ _ _ rfl) (Sub.refl _)) ?_
              refine W.loadA rfl ((hB3.ext hX_).cells (o := 0)) Try.underlying25 rfl (by rw [List.drop_zero, List.length_map, hk]; kernel_rfl) rfl ?_
              refine W.nil ?_
              exact At.step (Ext.refl _) rfl
            refine And.intro ?_ ?_
            · intro L_ w30 hX_ hs_ hf_ hd_
              refine W.step [(1, _)] (Sub.cons (hs_ _ _ rfl) (Sub.refl _)) ?_
              refine W.move rfl rfl ?_
              refine W.nil ?_
              exact At.step (Ext.refl _) rfl
            refine And.intro ?_ ?_
            · intro L_ w30 hX_ hs_ hf_ hd_
              refine W.step [(2, _)] (Sub.cons (hs_ _ _ rfl) (Sub.refl _)) ?_
              refine W.move rfl rfl ?_
              refine W.nil ?_
              exact At.step (Ext.refl _) rfl
            refine And.intro ?_ ?_
            · intro L_ w30 hX_ hs_ hf_ hd_
              obtain ⟨v2, e2, r2⟩ := hd_ 2 rfl
              obtain rfl : (keyV key : Value) = v2 := Eq.symm r2
              obtain ⟨v3, e3, r3⟩ := hd_ 3 rfl
              obtain rfl : (strV info : Value) = v3 := Eq.symm r3
              obtain ⟨v4, e4, r4⟩ := hd_ 4 rfl
              obtain rfl : (.int .i64 n : Value) = v4 := Eq.symm r4
              refine W.step [(32, _), (33, _), (34, _)] (Sub.cons e2 (Sub.cons e3 (Sub.cons e4 (Sub.refl _)))) ?_
              refine W.call Try.call27 rfl (Derive.RExpand_ok key info n _ hk hn (by omega)) rfl ?_
              rintro v35 w35 ⟨⟨ao35, c35, rfl, hS35, _⟩, hX35⟩
              refine W.nil ?_
              exact At.step hX35 ⟨_, _, by rw [hE], by rw [hE]; exact hS35⟩
            refine And.intro ?_ ?_
            · intro L_ w30 hX_ hs_ hf_ hd_
              obtain ⟨v5, e5, r5⟩ := hd_ 5 rfl
              obtain ⟨ao35, c35, rfl, hS35⟩ := r5
              refine W.step [(35, _)] (Sub.cons e5 (Sub.refl _)) ?_
              refine W.bytesStr Try.underlying23 Try.underlying5 Try.underlying9 rfl hS35 rfl ?_
              refine W.nil ?_
              exact At.step (Ext.refl _) rfl
            refine And.intro ?_ ?_
            · intro L_ w30 hX_ hs_ hf_ hd_
              obtain ⟨v1, e1, r1⟩ := hd_ 1 rfl
              obtain rfl : (strV E : Value) = v1 := Eq.symm r1
              obtain ⟨v6, e6, r6⟩ := hd_ 6 rfl
              obtain rfl : (strV E : Value) = v6 := Eq.symm r6
              refine W.step [(31, _), (36, _)] (Sub.cons e1 (Sub.cons e6 (Sub.refl _))) ?_
              refine W.eqlStr (a := E) (b := E) rfl rfl rfl ?_
              refine W.eqv (bT (rfl)) ?_
              refine W.nil ?_
              exact At.step (Ext.refl _) rfl
            refine And.intro ?_ ?_
            · intro L_ w30 hX_ hs_ hf_ hd_
              obtain ⟨v7, e7, r7⟩ := hd_ 7 rfl
              obtain rfl : (.bool true : Value) = v7 := Eq.symm r7
              refine W.step [(37, _)] (Sub.cons e7 (Sub.refl _)) ?_
              refine W.move rfl rfl ?_
              refine W.nil ?_
              exact At.step (Ext.refl _) rfl
            refine And.intro ?_ ?_
            · intro L_ w30 hX_ hs_ hf_ hd_
              obtain ⟨v8, e8, r8⟩ := hd_ 8 rfl
              obtain rfl : (.bool true : Value) = v8 := Eq.symm r8
              refine W.step [(2, _), (38, _)] (Sub.cons (hs_ _ _ rfl) (Sub.cons e8 (Sub.refl _))) ?_
              refine W.wants rfl rfl rfl rfl ?_
              refine W.move rfl rfl ?_
              refine W.nil ?_
              exact At.step (Ext.refl _) rfl
            refine And.intro ?_ ?_
            · intro L_ w30 hX_ hs_ hf_ hd_
              obtain ⟨v9, e9, r9⟩ := hd_ 9 rfl
              obtain rfl : (.int .i64 n : Value) = v9 := Eq.symm r9
              obtain ⟨v8, e8, r8⟩ := hd_ 8 rfl
              obtain rfl : (.bool true : Value) = v8 := Eq.symm r8
              refine W.step [(39, _), (38, _)] (Sub.cons e9 (Sub.cons e8 (Sub.refl _))) ?_
              refine W.wants rfl rfl rfl rfl ?_
              refine W.lssI rfl rfl rfl ?_
              refine W.eqv (bF (by omega)) ?_
              refine W.nil ?_
              exact At.step (Ext.refl _) rfl
            refine And.intro ?_ ?_
            · intro L_ w30 hX_ hs_ hf_ hd_
              obtain ⟨v10, e10, r10⟩ := hd_ 10 rfl
              obtain rfl : (.bool false : Value) = v10 := Eq.symm r10
              obtain ⟨v8, e8, r8⟩ := hd_ 8 rfl
              obtain rfl : (.bool true : Value) = v8 := Eq.symm r8
              refine W.step [(40, _), (38, _)] (Sub.cons e10 (Sub.cons e8 (Sub.refl _))) ?_
              refine W.wants rfl rfl rfl rfl ?_
              refine W.move rfl rfl ?_
              refine W.nil ?_
              exact At.step (Ext.refl _) rfl
            refine And.intro ?_ ?_
            · intro L_ w30 hX_ hs_ hf_ hd_
              obtain ⟨v11, e11, r11⟩ := hd_ 11 rfl
              obtain rfl : (.bool false : Value) = v11 := Eq.symm r11
              refine W.step [(2, _), (41, _)] (Sub.cons (hs_ _ _ rfl) (Sub.cons e11 (Sub.refl _))) ?_
              refine W.wants rfl rfl rfl rfl ?_
              refine W.move rfl rfl ?_
              refine W.nil ?_
              exact At.step (Ext.refl _) rfl
            refine And.intro ?_ ?_
            · intro L_ w30 hX_ hs_ hf_ hd_
              obtain ⟨v12, e12, r12⟩ := hd_ 12 rfl
              obtain rfl : (.int .i64 n : Value) = v12 := Eq.symm r12
              obtain ⟨v11, e11, r11⟩ := hd_ 11 rfl
              obtain rfl : (.bool false : Value) = v11 := Eq.symm r11
              refine W.step [(42, _), (41, _)] (Sub.cons e12 (Sub.cons e11 (Sub.refl _))) ?_
              refine W.wants rfl rfl rfl rfl ?_
              refine W.gtrI rfl rfl rfl ?_
              refine W.eqv (bT (by omega)) ?_
              refine W.nil ?_
              exact At.step (Ext.refl _) rfl
            refine And.intro ?_ ?_
            · intro L_ w30 hX_ hs_ hf_ hd_
              obtain ⟨v11, e11, r11⟩ := hd_ 11 rfl
              obtain rfl : (.bool false : Value) = v11 := Eq.symm r11
              obtain ⟨v13, e13, r13⟩ := hd_ 13 rfl
              obtain rfl : (.bool true : Value) = v13 := Eq.symm r13
              obtain ⟨v8, e8, r8⟩ := hd_ 8 rfl
              obtain rfl : (.bool true : Value) = v8 := Eq.symm r8
              refine W.step [(41, _), (43, _), (38, _)] (Sub.cons e11 (Sub.cons e13 (Sub.cons e8 (Sub.refl _)))) ?_
              refine W.wants rfl rfl rfl rfl ?_
              refine W.pickF rfl rfl rfl ?_
              refine W.nil ?_
              exact At.step (Ext.refl _) rfl
            refine And.intro ?_ ?_
            · intro L_ w30 hX_ hs_ hf_ hd_
              obtain ⟨v14, e14, r14⟩ := hd_ 14 rfl
              obtain rfl : (.bool true : Value) = v14 := Eq.symm r14
              obtain ⟨v8, e8, r8⟩ := hd_ 8 rfl
              obtain rfl : (.bool true : Value) = v8 := Eq.symm r8
              refine W.step [(44, _), (38, _)] (Sub.cons e14 (Sub.cons e8 (Sub.refl _))) ?_
              refine W.wants rfl rfl rfl rfl ?_
              refine W.move rfl rfl ?_
              refine W.nil ?_
              exact At.step (Ext.refl _) rfl
            refine And.intro ?_ ?_
            · intro L_ w30 hX_ hs_ hf_ hd_
              obtain ⟨v15, e15, r15⟩ := hd_ 15 rfl
              obtain rfl : (.bool true : Value) = v15 := Eq.symm r15
              refine W.step [(45, _)] (Sub.cons e15 (Sub.refl _)) ?_
              refine W.skips rfl rfl rfl rfl rfl rfl ?_
              refine W.nil ?_
              exact At.step (Ext.refl _) rfl
            refine And.intro ?_ ?_
            · intro L_ w30 hX_ hs_ hf_ hd_
              obtain ⟨v15, e15, r15⟩ := hd_ 15 rfl
              obtain rfl : (.bool true : Value) = v15 := Eq.symm r15
              refine W.step [(45, _)] (Sub.cons e15 (Sub.refl _)) ?_
              refine W.skips rfl rfl rfl rfl rfl rfl ?_
              refine W.nil ?_
              exact At.step (Ext.refl _) rfl
            refine And.intro ?_ ?_
            · intro L_ w30 hX_ hs_ hf_ hd_
              obtain ⟨v15, e15, r15⟩ := hd_ 15 rfl
              obtain rfl : (.bool true : Value) = v15 := Eq.symm r15
              refine W.step [(45, _)] (Sub.cons e15 (Sub.refl _)) ?_
              refine W.skips rfl rfl rfl rfl rfl rfl ?_
              refine W.nil ?_
              exact At.step (Ext.refl _) rfl
            refine And.intro ?_ ?_
            · intro L_ w30 hX_ hs_ hf_ hd_
              obtain ⟨v15, e15, r15⟩ := hd_ 15 rfl
              obtain rfl : (.bool true : Value) = v15 := Eq.symm r15
              refine W.step [(45, _)] (Sub.cons e15 (Sub.refl _)) ?_
              refine W.skips rfl rfl rfl rfl rfl rfl ?_
              refine W.nil ?_
              exact At.step (Ext.refl _) rfl
            refine And.intro ?_ ?_
            · intro L_ w30 hX_ hs_ hf_ hd_
              obtain ⟨v15, e15, r15⟩ := hd_ 15 rfl
              obtain rfl : (.bool true : Value) = v15 := Eq.symm r15
              obtain ⟨v19, e19, r19⟩ := hd_ 19 rfl
              obtain rfl : (undef : Value) = v19 := Eq.symm r19
              obtain ⟨v8, e8, r8⟩ := hd_ 8 rfl
              obtain rfl : (.bool true : Value) = v8 := Eq.symm r8
              refine W.step [(45, _), (49, _), (38, _)] (Sub.cons e15 (Sub.cons e19 (Sub.cons e8 (Sub.refl _)))) ?_
              refine W.wants rfl rfl rfl rfl ?_
              refine W.pickT rfl rfl rfl ?_
              refine W.nil ?_
              exact At.step (Ext.refl _) rfl
            refine And.intro ?_ ?_
            · intro L_ w30 hX_ hs_ hf_ hd_
              obtain ⟨v8, e8, r8⟩ := hd_ 8 rfl
              obtain rfl : (.bool true : Value) = v8 := Eq.symm r8
              obtain ⟨v20, e20, r20⟩ := hd_ 20 rfl
              obtain rfl : (.bool true : Value) = v20 := Eq.symm r20
              refine W.step [(38, _), (50, _)] (Sub.cons e8 (Sub.cons e20 (Sub.refl _))) ?_
              refine W.pickT rfl rfl rfl ?_
              refine W.nil ?_
              exact At.step (Ext.refl _) rfl
            refine And.intro ?_ ?_
            · intro L_ w30 hX_ hs_ hf_ hd_
              obtain ⟨v21, e21, r21⟩ := hd_ 21 rfl
              obtain rfl : (.bool true : Value) = v21 := Eq.symm r21
              refine W.step [(51, _)] (Sub.cons e21 (Sub.refl _)) ?_
              refine W.assign rfl rfl ?_
              refine W.nil ?_
              exact At.step (Ext.refl _) rfl
            exact trivial
          · intro L_ w30 hX5 hs_ hv_
            obtain ⟨v22, e22, r22⟩ := hv_ 22 (by decide)
            obtain rfl : (.bool true : Value) = v22 := Eq.symm r22
            refine W.weaken (l' := [(6, _), (1, _), (2, _), (3, _), (8, _)]) (Sub.cons e22 (Sub.cons (hs_ _ _ rfl) (Sub.cons (hs_ _ _ rfl) (Sub.cons (hs_ _ _ rfl) (Sub.cons (hs_ _ _ rfl) (Sub.nil)))))) ?_
            refine W.nil ?_
            refine At.thenCode ?_
            refine C.ret ?_
            refine At.ret1 Try.results11 rfl ?_
            first | exact ⟨rfl, Ext.below (((hX3.ext hX9).ext hX29).ext hX5)⟩ | exact ⟨rfl, Ext.below (hX3.ext hX9)⟩
        · refine C.regionAny 23 ((fun v w => v = .slice ao29 E.length c29) :: (fun v w => v = strV E) :: (fun v w => v = keyV key) :: (fun v w => v = strV info) :: (fun v w => v = .int .i64 n) :: (fun v w => Rep w v E) :: (fun v w => v = strV E) :: (fun v w => v = .bool true) :: (fun v w => v = .bool true) :: (fun v w => v = .int .i64 n) :: (fun v w => v = .bool false) :: (fun v w => v = .bool false) :: (fun v w => v = .int .i64 n) :: (fun v w => v = .bool false) :: (fun v w => v = .bool false) :: (fun v w => v = .bool false) :: (fun v w => v = .slice ao29 E.length c29) :: (fun v w => v = .int .i64 (E.length : Int)) :: (fun v w => v = .int .i64 n) :: (fun v w => v = .bool true) :: (fun v w => v = .bool true) :: (fun v w => v = .bool true) :: (fun v w => v = .bool true) :: []) [(1, strV info), (2, .int .i64 n), (3, .pointer (some ⟨g3, 0, none⟩)), (8, .slice ao29 E.length c29)] [] (Sub.cons (rfl) (Sub.cons (rfl) (Sub.cons (rfl) (Sub.cons (rfl) (Sub.nil))))) (Sub.nil) (Sub.cons (rfl) (Sub.cons (rfl) (Sub.cons (rfl) (Sub.cons (rfl) (Sub.nil))))) (by kernel_rfl) rfl rfl rfl (And.intro (fun _ _ _ h _ => h) (And.intro (fun _ _ _ h _ => h) (And.intro (fun _ _ _ h _ => h) (And.intro (fun _ _ _ h _ => h) (And.intro (fun _ _ _ h _ => h) (And.intro (fun _ _ _ h g => h.ext g) (And.intro (fun _ _ _ h _ => h) (And.intro (fun _ _ _ h _ => h) (And.intro (fun _ _ _ h _ => h) (And.intro (fun _ _ _ h _ => h) (And.intro (fun _ _ _ h _ => h) (And.intro (fun _ _ _ h _ => h) (And.intro (fun _ _ _ h _ => h) (And.intro (fun _ _ _ h _ => h) (And.intro (fun _ _ _ h _ => h) (And.intro (fun _ _ _ h _ => h) (And.intro (fun _ _ _ h _ => h) (And.intro (fun _ _ _ h _ => h) (And.intro (fun _ _ _ h _ => h) (And.intro (fun _ _ _ h _ => h) (And.intro (fun _ _ _ h _ => h) (And.intro (fun _ _ _ h _ => h) (And.intro (fun _ _ _ h _ => h) (trivial)))))))))))))))))))))))) ?_ ?_
          · refine And.intro ?_ ?_
            · intro L_ w30 hX_ hs_ hf_ hd_
              refine W.step [(8, _)] (Sub.cons (hs_ _ _ rfl) (Sub.refl _)) ?_
              refine W.move rfl rfl ?_
              refine W.nil ?_
              exact At.step (Ext.refl _) rfl
            refine And.intro ?_ ?_
            · intro L_ w30 hX_ hs_ hf_ hd_
              obtain ⟨v0, e0, r0⟩ := hd_ 0 rfl
              obtain rfl : (.slice ao29 E.length c29 : Value) = v0 := Eq.symm r0
              refine W.step [(30, _)] (Sub.cons e0 (Sub.refl _)) ?_
              refine W.bytesStr Try.underlying23 Try.underlying5 Try.underlying9 rfl (Sl.ext hS29 hX_) rfl ?_
              refine W.nil ?_
              exact At.step (Ext.refl _) rfl
            refine And.intro ?_ ?_
            · intro L_ w30 hX_ hs_ hf_ hd_
              refine W.step [(3, _)] (Sub.cons (hs_ _ _ rfl) (Sub.refl _)) ?_
              refine W.loadA rfl ((hB3.ext hX_).cells (o := 0)) Try.underlying25 rfl (by rw [List.drop_zero, List.length_map, hk]; kernel_rfl) rfl ?_
              refine W.nil ?_
              exact At.step (Ext.refl _) rfl
            refine And.intro ?_ ?_
            · intro L_ w30 hX_ hs_ hf_ hd_
              refine W.step [(1, _)] (Sub.cons (hs_ _ _ rfl) (Sub.refl _)) ?_
              refine W.move rfl rfl ?_
              refine W.nil ?_
              exact At.step (Ext.refl _) rfl
            refine And.intro ?_ ?_
            · intro L_ w30 hX_ hs_ hf_ hd_
              refine W.step [(2, _)] (Sub.cons (hs_ _ _ rfl) (Sub.refl _)) ?_
              refine W.move rfl rfl ?_
              refine W.nil ?_
              exact At.step (Ext.refl _) rfl
            refine And.intro ?_ ?_
            · intro L_ w30 hX_ hs_ hf_ hd_
              obtain ⟨v2, e2, r2⟩ := hd_ 2 rfl
              obtain rfl : (keyV key : Value) = v2 := Eq.symm r2
              obtain ⟨v3, e3, r3⟩ := hd_ 3 rfl
              obtain rfl : (strV info : Value) = v3 := Eq.symm r3
              obtain ⟨v4, e4, r4⟩ := hd_ 4 rfl
              obtain rfl : (.int .i64 n : Value) = v4 := Eq.symm r4
              refine W.step [(32, _), (33, _), (34, _)] (Sub.cons e2 (Sub.cons e3 (Sub.cons e4 (Sub.refl _)))) ?_
              refine W.call Try.call27 rfl (Derive.RExpand_ok key info n _ hk hn (by omega)) rfl ?_
              rintro v35 w35 ⟨⟨ao35, c35, rfl, hS35, _⟩, hX35⟩
              refine W.nil ?_
              exact At.step hX35 ⟨_, _, by rw [hE], by rw [hE]; exact hS35⟩
            refine And.intro ?_ ?_
            · intro L_ w30 hX_ hs_ hf_ hd_
              obtain ⟨v5, e5, r5⟩ := hd_ 5 rfl
              obtain ⟨ao35, c35, rfl, hS35⟩ := r5
              refine W.step [(35, _)] (Sub.cons e5 (Sub.refl _)) ?_
              refine W.bytesStr Try.underlying23 Try.underlying5 Try.underlying9 rfl hS35 rfl ?_
              refine W.nil ?_
              exact At.step (Ext.refl _) rfl
            refine And.intro ?_ ?_
            · intro L_ w30 hX_ hs_ hf_ hd_
              obtain ⟨v1, e1, r1⟩ := hd_ 1 rfl
              obtain rfl : (strV E : Value) = v1 := Eq.symm r1
              obtain ⟨v6, e6, r6⟩ := hd_ 6 rfl
              obtain rfl : (strV E : Value) = v6 := Eq.symm r6
              refine W.step [(31, _), (36, _)] (Sub.cons e1 (Sub.cons e6 (Sub.refl _))) ?_
              refine W.eqlStr (a := E) (b := E) rfl rfl rfl ?_
              refine W.eqv (bT (rfl)) ?_
              refine W.nil ?_
              exact At.step (Ext.refl _) rfl
            refine And.intro ?_ ?_
            · intro L_ w30 hX_ hs_ hf_ hd_
              obtain ⟨v7, e7, r7⟩ := hd_ 7 rfl
              obtain rfl : (.bool true : Value) = v7 := Eq.symm r7
              refine W.step [(37, _)] (Sub.cons e7 (Sub.refl _)) ?_
              refine W.move rfl rfl ?_
              refine W.nil ?_
              exact At.step (Ext.refl _) rfl
            refine And.intro ?_ ?_
            · intro L_ w30 hX_ hs_ hf_ hd_
              obtain ⟨v8, e8, r8⟩ := hd_ 8 rfl
              obtain rfl : (.bool true : Value) = v8 := Eq.symm r8
              refine W.step [(2, _), (38, _)] (Sub.cons (hs_ _ _ rfl) (Sub.cons e8 (Sub.refl _))) ?_
              refine W.wants rfl rfl rfl rfl ?_
              refine W.move rfl rfl ?_
              refine W.nil ?_
              exact At.step (Ext.refl _) rfl
            refine And.intro ?_ ?_
            · intro L_ w30 hX_ hs_ hf_ hd_
              obtain ⟨v9, e9, r9⟩ := hd_ 9 rfl
              obtain rfl : (.int .i64 n : Value) = v9 := Eq.symm r9
              obtain ⟨v8, e8, r8⟩ := hd_ 8 rfl
              obtain rfl : (.bool true : Value) = v8 := Eq.symm r8
              refine W.step [(39, _), (38, _)] (Sub.cons e9 (Sub.cons e8 (Sub.refl _))) ?_
              refine W.wants rfl rfl rfl rfl ?_
              refine W.lssI rfl rfl rfl ?_
              refine W.eqv (bF (by omega)) ?_
              refine W.nil ?_
              exact At.step (Ext.refl _) rfl
            refine And.intro ?_ ?_
            · intro L_ w30 hX_ hs_ hf_ hd_
              obtain ⟨v10, e10, r10⟩ := hd_ 10 rfl
              obtain rfl : (.bool false : Value) = v10 := Eq.symm r10
              obtain ⟨v8, e8, r8⟩ := hd_ 8 rfl
              obtain rfl : (.bool true : Value) = v8 := Eq.symm r8
              refine W.step [(40, _), (38, _)] (Sub.cons e10 (Sub.cons e8 (Sub.refl _))) ?_
              refine W.wants rfl rfl rfl rfl ?_
              refine W.move rfl rfl ?_
              refine W.nil ?_
              exact At.step (Ext.refl _) rfl
            refine And.intro ?_ ?_
            · intro L_ w30 hX_ hs_ hf_ hd_
              obtain ⟨v11, e11, r11⟩ := hd_ 11 rfl
              obtain rfl : (.bool false : Value) = v11 := Eq.symm r11
              refine W.step [(2, _), (41, _)] (Sub.cons (hs_ _ _ rfl) (Sub.cons e11 (Sub.refl _))) ?_
              refine W.wants rfl rfl rfl rfl ?_
              refine W.move rfl rfl ?_
              refine W.nil ?_
              exact At.step (Ext.refl _) rfl
            refine And.intro ?_ ?_
            · intro L_ w30 hX_ hs_ hf_ hd_
              obtain ⟨v12, e12, r12⟩ := hd_ 12 rfl
              obtain rfl : (.int .i64 n : Value) = v12 := Eq.symm r12
              obtain ⟨v11, e11, r11⟩ := hd_ 11 rfl
              obtain rfl : (.bool false : Value) = v11 := Eq.symm r11
              refine W.step [(42, _), (41, _)] (Sub.cons e12 (Sub.cons e11 (Sub.refl _))) ?_
              refine W.wants rfl rfl rfl rfl ?_
              refine W.gtrI rfl rfl rfl ?_
              refine W.eqv (bF (by omega)) ?_
              refine W.nil ?_
              exact At.step (Ext.refl _) rfl
            refine And.intro ?_ ?_
            · intro L_ w30 hX_ hs_ hf_ hd_
              obtain ⟨v11, e11, r11⟩ := hd_ 11 rfl
              obtain rfl : (.bool false : Value) = v11 := Eq.symm r11
              obtain ⟨v13, e13, r13⟩ := hd_ 13 rfl
              obtain rfl : (.bool false : Value) = v13 := Eq.symm r13
              obtain ⟨v8, e8, r8⟩ := hd_ 8 rfl
              obtain rfl : (.bool true : Value) = v8 := Eq.symm r8
              refine W.step [(41, _), (43, _), (38, _)] (Sub.cons e11 (Sub.cons e13 (Sub.cons e8 (Sub.refl _)))) ?_
              refine W.wants rfl rfl rfl rfl ?_
              refine W.pickF rfl rfl rfl ?_
              refine W.nil ?_
              exact At.step (Ext.refl _) rfl
            refine And.intro ?_ ?_
            · intro L_ w30 hX_ hs_ hf_ hd_
              obtain ⟨v14, e14, r14⟩ := hd_ 14 rfl
              obtain rfl : (.bool false : Value) = v14 := Eq.symm r14
              obtain ⟨v8, e8, r8⟩ := hd_ 8 rfl
              obtain rfl : (.bool true : Value) = v8 := Eq.symm r8
              refine W.step [(44, _), (38, _)] (Sub.cons e14 (Sub.cons e8 (Sub.refl _))) ?_
              refine W.wants rfl rfl rfl rfl ?_
              refine W.move rfl rfl ?_
              refine W.nil ?_
              exact At.step (Ext.refl _) rfl
            refine And.intro ?_ ?_
            · intro L_ w30 hX_ hs_ hf_ hd_
              obtain ⟨v15, e15, r15⟩ := hd_ 15 rfl
              obtain rfl : (.bool false : Value) = v15 := Eq.symm r15
              refine W.step [(8, _), (45, _)] (Sub.cons (hs_ _ _ rfl) (Sub.cons e15 (Sub.refl _))) ?_
              refine W.wants rfl rfl rfl rfl ?_
              refine W.move rfl rfl ?_
              refine W.nil ?_
              exact At.step (Ext.refl _) rfl
            refine And.intro ?_ ?_
            · intro L_ w30 hX_ hs_ hf_ hd_
              obtain ⟨v16, e16, r16⟩ := hd_ 16 rfl
              obtain rfl : (.slice ao29 E.length c29 : Value) = v16 := Eq.symm r16
              obtain ⟨v15, e15, r15⟩ := hd_ 15 rfl
              obtain rfl : (.bool false : Value) = v15 := Eq.symm r15
              refine W.step [(46, _), (45, _)] (Sub.cons e16 (Sub.cons e15 (Sub.refl _))) ?_
              refine W.wants rfl rfl rfl rfl ?_
              refine W.lenS rfl Try.underlying23 rfl ?_
              refine W.nil ?_
              exact At.step (Ext.refl _) rfl
            refine And.intro ?_ ?_
            · intro L_ w30 hX_ hs_ hf_ hd_
              obtain ⟨v15, e15, r15⟩ := hd_ 15 rfl
              obtain rfl : (.bool false : Value) = v15 := Eq.symm r15
              refine W.step [(2, _), (45, _)] (Sub.cons (hs_ _ _ rfl) (Sub.cons e15 (Sub.refl _))) ?_
              refine W.wants rfl rfl rfl rfl ?_
              refine W.move rfl rfl ?_
              refine W.nil ?_
              exact At.step (Ext.refl _) rfl
            refine And.intro ?_ ?_
            · intro L_ w30 hX_ hs_ hf_ hd_
              obtain ⟨v17, e17, r17⟩ := hd_ 17 rfl
              obtain rfl : (.int .i64 (E.length : Int) : Value) = v17 := Eq.symm r17
              obtain ⟨v18, e18, r18⟩ := hd_ 18 rfl
              obtain rfl : (.int .i64 n : Value) = v18 := Eq.symm r18
              obtain ⟨v15, e15, r15⟩ := hd_ 15 rfl
              obtain rfl : (.bool false : Value) = v15 := Eq.symm r15
              refine W.step [(47, _), (48, _), (45, _)] (Sub.cons e17 (Sub.cons e18 (Sub.cons e15 (Sub.refl _)))) ?_
              refine W.wants rfl rfl rfl rfl ?_
              refine W.eqlI rfl rfl rfl ?_
              refine W.eqv (bT (hl29 hn1 hn2)) ?_
              refine W.nil ?_
              exact At.step (Ext.refl _) rfl
            refine And.intro ?_ ?_
            · intro L_ w30 hX_ hs_ hf_ hd_
              obtain ⟨v15, e15, r15⟩ := hd_ 15 rfl
              obtain rfl : (.bool false : Value) = v15 := Eq.symm r15
              obtain ⟨v19, e19, r19⟩ := hd_ 19 rfl
              obtain rfl : (.bool true : Value) = v19 := Eq.symm r19
              obtain ⟨v8, e8, r8⟩ := hd_ 8 rfl
              obtain rfl : (.bool true : Value) = v8 := Eq.symm r8
              refine W.step [(45, _), (49, _), (38, _)] (Sub.cons e15 (Sub.cons e19 (Sub.cons e8 (Sub.refl _)))) ?_
              refine W.wants rfl rfl rfl rfl ?_
              refine W.pickF rfl rfl rfl ?_
              refine W.nil ?_
              exact At.step (Ext.refl _) rfl
            refine And.intro ?_ ?_
            · intro L_ w30 hX_ hs_ hf_ hd_
              obtain ⟨v8, e8, r8⟩ := hd_ 8 rfl
              obtain rfl : (.bool true : Value) = v8 := Eq.symm r8
              obtain ⟨v20, e20, r20⟩ := hd_ 20 rfl
              obtain rfl : (.bool true : Value) = v20 := Eq.symm r20
              refine W.step [(38, _), (50, _)] (Sub.cons e8 (Sub.cons e20 (Sub.refl _))) ?_
              refine W.pickT rfl rfl rfl ?_
              refine W.nil ?_
              exact At.step (Ext.refl _) rfl
            refine And.intro ?_ ?_
            · intro L_ w30 hX_ hs_ hf_ hd_
              obtain ⟨v21, e21, r21⟩ := hd_ 21 rfl
              obtain rfl : (.bool true : Value) = v21 := Eq.symm r21
              refine W.step [(51, _)] (Sub.cons e21 (Sub.refl _)) ?_
              refine W.assign rfl rfl ?_
              refine W.nil ?_
              exact At.step (Ext.refl _) rfl
            exact trivial
          · intro L_ w30 hX5 hs_ hv_
            obtain ⟨v22, e22, r22⟩ := hv_ 22 (by decide)
            obtain rfl : (.bool true : Value) = v22 := Eq.symm r22
            refine W.weaken (l' := [(6, _), (1, _), (2, _), (3, _), (8, _)]) (Sub.cons e22 (Sub.cons (hs_ _ _ rfl) (Sub.cons (hs_ _ _ rfl) (Sub.cons (hs_ _ _ rfl) (Sub.cons (hs_ _ _ rfl) (Sub.nil)))))) ?_
            refine W.nil ?_
            refine At.thenCode ?_
            refine C.ret ?_
            refine At.ret1 Try.results11 rfl ?_
            first | exact ⟨rfl, Ext.below (((hX3.ext hX9).ext hX29).ext hX5)⟩ | exact ⟨rfl, Ext.below (hX3.ext hX9)⟩
end Go.Proofs.Ytmnndbebnojlgaa.Law4
