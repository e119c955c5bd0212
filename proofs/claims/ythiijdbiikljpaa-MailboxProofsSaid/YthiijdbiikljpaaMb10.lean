/- Package mailbox: what is read again, and opening. -/
import Derived.Test.YthiijdbiikljpaaMb9
import Derived.Test.YthiijdbiikljpaaCodV
namespace Go.Proofs.Ythiijdbiikljpaa.Mbx
open Go Go.RowKit Go.Proofs.Ythiijdbiikljpaa.KW Go.Proofs.Ythiijdbiikljpaa.Words Go.Proofs.Ythiijdbiikljpaa.Sha Go.Proofs.Ythiijdbiikljpaa.RSha Go.Proofs.Ythiijdbiikljpaa.Grp Go.Proofs.Ythiijdbiikljpaa.Cod Go.Proofs.Ythiijdbiikljpaa.Disk
set_option linter.unusedVariables false
set_option linter.unusedSimpArgs false
set_option maxRecDepth 100000
theorem mayE_zero {s : Bag} {x : BatD} (h : mayE s x = 0) : x.round ≤ 1099511627776 ∧ batE x = 0 ∧ (s.past : Int) ≤ x.round ∧ hasL s.l x.round x.chain = false := by
  unfold mayE at h
  split at h
  · cases h
  · rename_i h1
    split at h
    · rename_i h2; exact absurd h h2
    · rename_i h2
      split at h
      · cases h
      · rename_i h3
        split at h
        · cases h
        · rename_i h4
          refine ⟨?_, ?_, by omega, by simpa using h4⟩
          · rcases Classical.em (1099511627776 < x.round) with h5 | h5
            · exact absurd (.inl h5) h1
            · omega
          · rcases Nat.eq_zero_or_pos (batE x) with h5 | h5
            · exact h5
            · exact absurd (by omega : batE x ≠ 0) h2
theorem again_1 (s : Bag) (y : List UInt8) : againS s (1 :: y) = if batRE y = 0 ∧ mayE s (batR y) = 0 then some (takeS s (batR y)) else none := by rw [againS]; exact if_pos rfl
theorem again_2 (s : Bag) (y : List UInt8) : againS s (2 :: y) = if y.length = 8 ∧ beNat y ≤ 1099511627776 then some (goneS s (beNat y)) else none := by rw [againS, if_neg (by decide)]; exact if_pos rfl
theorem again_x (s : Bag) {t : UInt8} (h1 : t ≠ 1) (h2 : t ≠ 2) (y : List UInt8) : againS s (t :: y) = none := by rw [againS, if_neg h1]; exact if_neg h2
theorem batR_small (y : List UInt8) : (batR y).inner.length ≤ 20 ∧ (batR y).lets.length ≤ 1000 ∧ ∀ p ∈ (batR y).lets, p.2.length ≤ 1048576 := by
  by_cases h : batRE y = 0
  · exact batE_small (bat_again y h).1
  · have : batR y = zeroBat := if_neg h
    rw [this]
    exact ⟨Nat.zero_le _, Nat.zero_le _, fun p hp => by cases hp⟩
def againB (s : Bag) (x : List UInt8) : Bag := (againS s x).getD s
theorem getV_tail {t : UInt8} {y : List UInt8} (h : y.length = 8) : getE (t :: y) 1 8 = 0 ∧ getV (t :: y) 1 8 = beNat y := by
  have h1 : getE (t :: y) 1 8 = 0 := getE_0.2 ⟨by omega, by simp; omega⟩
  refine ⟨h1, ?_⟩
  unfold getV
  rw [if_pos h1]
  show beNat ((List.drop 1 (t :: y)).take 8) = _
  rw [List.drop_succ_cons, List.drop_zero, List.take_of_length_le (by omega)]
theorem again_ok (F : Nat → Prop) (g dg : Nat) (s : Bag) (o : Option Nat) (a : Option Addr) (c : Nat) (b : List UInt8) (w : World) (hS : St w F g dg s o) (hb : Bs w a c b) (hl : b.length ≤ 1000000) (hsl : s.l.length ≤ 1000000000) :
    Ct Try.prog 28 #[.pointer (some ⟨g, 0, none⟩), .slice a b.length c] w (fun v w' => v = .bool (againS s b).isSome ∧ ∃ F' : Nat → Prop, St w' F' g dg (againB s b) o ∧ (∀ k, F k → F' k) ∧ (∀ k, F' k → F k ∨ w.heap.size ≤ k) ∧ Chg F w w') := by
  have hpast := hS.ok.2.1
  have hself : St w F g dg s o → (againS s b = none) → ∀ {w1 : World}, Ext w w1 → (Value.bool false = .bool (againS s b).isSome ∧ ∃ F' : Nat → Prop, St w1 F' g dg (againB s b) o ∧ (∀ k, F k → F' k) ∧ (∀ k, F' k → F k ∨ w.heap.size ≤ k) ∧ Chg F w w1) := fun h hn w1 hX => by
    unfold againB
    rw [hn]
    exact ⟨rfl, F, h.ext hX, fun k hk => hk, fun k hk => .inl hk, hX.mono fun _ c => c.elim⟩
  refine Ct.enter [(0, .pointer (some ⟨g, 0, none⟩)), (1, .slice a b.length c)] Try.func28 rfl rfl rfl rfl ?_
  refine C.seq ?_
  refine C.region ?_
  refine W.assign rfl rfl ?_
  refine W.nil ?_
  refine At.thenCode ?_
  refine C.seq ?_
  refine C.seq ?_
  refine C.region ?_
  refine W.move rfl rfl ?_
  refine W.lenS rfl Try.underlying51 rfl ?_
  refine W.eqlI rfl rfl rfl ?_
  refine W.nil ?_
  refine At.thenCode ?_
  first | refine C.condD rfl (fun c11 => ?_) (fun c11 => ?_) | refine C.cond rfl (fun c11 => ?_) (fun c11 => ?_)
  · refine C.seq ?_
    refine C.region ?_
    refine W.assign rfl rfl ?_
    refine W.nil ?_
    refine At.thenCode ?_
    refine C.ret ?_
    refine At.thenRet ?_
    refine At.ret1 Try.results28 rfl ?_
    obtain rfl : b = [] := List.eq_nil_of_length_eq_zero (by omega)
    exact hself hS rfl (Ext.refl _)
  · obtain ⟨t, y, rfl⟩ : ∃ t y, b = t :: y := List.exists_cons_of_ne_nil (by rintro rfl; exact c11 rfl)
    have hyl : (t :: y).length = y.length + 1 := rfl
    refine C.skip ?_
    refine At.thenCode ?_
    refine C.seq ?_
    refine C.seq ?_
    refine C.region ?_
    refine W.move rfl rfl ?_
    refine W.indexS (i := 0) E8 Try.underlying51 rfl hb rfl ⟨by omega, by omega⟩ rfl ?_
    intro ad13 _ _ hc13
    refine W.load (v := byteV t) rfl Try.underlying5 rfl (by have h := hc13 0 (byteV t) rfl; rwa [add_zero'] at h) rfl ?_
    rw [byteV_eq]
    refine W.nil ?_
    refine At.thenCode ?_
    refine C.block ?_
    refine C.seq ?_
    refine C.region ?_
    refine W.eqlU (n := 1) rfl rfl rfl ?_
    refine W.assign rfl rfl ?_
    refine W.nil ?_
    refine At.thenCode ?_
    first | refine C.condD rfl (fun c15 => ?_) (fun c15 => ?_) | refine C.cond rfl (fun c15 => ?_) (fun c15 => ?_)
    · have ht : t = 1 := UInt8.toNat_inj.1 c15
      subst ht
      refine C.seq ?_
      refine C.region ?_
      refine W.move rfl rfl ?_
      refine W.slice (lo := 1) (hi := (1 :: y).length) E8 Try.underlying51 rfl hb (.inr ⟨_, .i64, rfl, rfl⟩) (.inl ⟨rfl, rfl⟩) (by omega) (Nat.le_refl _) rfl ?_
      intro a19 c19 hS19 _
      have hS19' : Bs w a19 c19 y := by
        have := Bs.part (lo := 1) (hi := (1 :: y).length) (by omega) (Nat.le_refl _) hS19
        rwa [List.drop_succ_cons, List.drop_zero, hyl, Nat.add_sub_cancel, List.take_of_length_le (Nat.le_refl _)] at this
      rw [hyl, Nat.add_sub_cancel]
      refine W.call Try.call44 rfl (Cod.ReadBatch_ok a19 c19 y _ hS19' (by omega)) rfl ?_
      rintro v20 w20 ⟨vi, vl, rfl, hI20, hL20, hX20⟩
      have hbo := batR_ok y
      obtain ⟨hb1, hb2, hb3⟩ := batR_small y
      have hrx : batRE y = 0 → batE (batR y) = 0 := fun h => (bat_again y h).1
      obtain ⟨xb, hxb⟩ : ∃ xb, xb = batR y := ⟨_, rfl⟩
      obtain ⟨rb, hrb⟩ : ∃ rb, rb = batRE y := ⟨_, rfl⟩
      rw [← hxb] at hI20 hL20 hbo hb1 hb2 hb3 hrx
      rw [← hrb] at hrx
      rw [← hxb, ← hrb]
      have hBM : BatM (fun k => k < w.heap.size) w20 xb vi vl := ⟨hI20, hL20, hbo, by omega, by omega, fun p hp => by have := hb3 p hp; omega⟩
      have hS20 := hS.ext hX20
      have hs20 := hX20.size
      refine W.move rfl rfl ?_
      refine W.extract rfl rfl rfl ?_
      refine W.extract rfl rfl rfl ?_
      refine W.alloc (z := .agg #[.int .i64 0, .int .i64 0, .slice none 0 0, .slice none 0 0]) [.int .i64 0, .int .i64 0, .slice none 0 0, .slice none 0 0] (by kernel_rfl) rfl rfl ?_
      intro g5 w5 hg5 hX5 hB5
      refine W.storeA (batC xb vi vl) rfl rfl hB5 rfl (by kernel_rfl) (batC_one hBM) ?_
      intro w6 hC6 hB6
      have hX6 : Ext w20 w6 := hX5.news hC6 fun k hk => Or.inr (by omega)
      have hX6w := hX20.ext hX6
      have hS6 := hS20.ext hX6
      have hBM6 := hBM.ext hX6
      refine W.assign rfl rfl ?_
      refine W.nil ?_
      refine At.thenCode ?_
      refine C.seq ?_
      refine C.seq ?_
      refine C.region ?_
      refine W.move rfl rfl ?_
      refine W.neqI rfl rfl rfl ?_
      refine W.move rfl rfl ?_
      first | refine W.splitD (fun g25 => ?_) (fun g25 => ?_) | refine W.splitB (fun g25 => ?_) (fun g25 => ?_)
      · refine W.skips rfl rfl rfl rfl rfl rfl ?_
        refine W.skips rfl rfl rfl rfl rfl rfl ?_
        refine W.skips rfl rfl rfl rfl rfl rfl ?_
        refine W.skips rfl rfl rfl rfl rfl rfl ?_
        refine W.pickT rfl rfl rfl ?_
        refine W.nil ?_
        refine At.thenCode ?_
        refine C.condT rfl ?_
        refine C.seq ?_
        refine C.region ?_
        refine W.assign rfl rfl ?_
        refine W.nil ?_
        refine At.thenCode ?_
        refine C.ret ?_
        refine At.thenRet ?_
        refine At.blockRet ?_
        refine At.thenRet ?_
        refine At.ret1 Try.results28 rfl ?_
        have hre : ¬ rb = 0 := by have := g25; omega
        have hag : againS s (1 :: y) = none := by
          rw [again_1, ← hrb, if_neg (fun h => hre h.1)]
        exact hself hS hag hX6w
      · refine W.wants rfl rfl rfl rfl ?_
        refine W.move rfl rfl ?_
        refine W.wants rfl rfl rfl rfl ?_
        refine W.loadA rfl (hB6.cells (o := 0)) Try.underlying33 rfl (by kernel_rfl) rfl ?_
        rw [List.drop_zero]
        refine W.wants rfl rfl rfl rfl ?_
        refine W.call Try.call29 rfl (Mbx.may_ok F _ g dg s o xb vi vl _ hS6 hBM6) rfl ?_
        rintro v28 w28 ⟨rfl, hX28⟩
        refine W.wants rfl rfl rfl rfl ?_
        refine W.neqI rfl rfl rfl ?_
        refine W.pickF rfl rfl rfl ?_
        refine W.nil ?_
        refine At.thenCode ?_
        first | refine C.condD rfl (fun c30 => ?_) (fun c30 => ?_) | refine C.cond rfl (fun c30 => ?_) (fun c30 => ?_)
        · refine C.seq ?_
          refine C.region ?_
          refine W.assign rfl rfl ?_
          refine W.nil ?_
          refine At.thenCode ?_
          refine C.ret ?_
          refine At.thenRet ?_
          refine At.blockRet ?_
          refine At.thenRet ?_
          refine At.ret1 Try.results28 rfl ?_
          have hme : ¬ mayE s xb = 0 := by omega
          have hag : againS s (1 :: y) = none := by
            rw [again_1, ← hxb, if_neg (fun h => hme h.2)]
          exact hself hS hag (hX6w.ext hX28)
        · have hre : rb = 0 := by have := g25; omega
          have hme : mayE s xb = 0 := by omega
          obtain ⟨m1, m2, m3, m4⟩ := mayE_zero hme
          have hag : againS s (1 :: y) = some (takeS s xb) := by
            rw [again_1, ← hrb, ← hxb, if_pos ⟨hre, hme⟩]
          have hS28 := hS6.ext hX28
          have hBM28 := hBM6.ext hX28
          refine C.skip ?_
          refine At.thenCode ?_
          refine C.seq ?_
          refine C.region ?_
          refine W.move rfl rfl ?_
          refine W.loadA rfl ((hB6.ext hX28).cells (o := 0)) Try.underlying33 rfl (by kernel_rfl) rfl ?_
          rw [List.drop_zero]
          refine W.call Try.call33 rfl (Mbx.take_ok F g dg s o xb vi vl _ hS28 (hBM28.new fun k hk _ => hS.lt k hk) m4 m2 hsl) rfl ?_
          rintro v33 w33 ⟨F', hS33, hF1, hF2, hC33⟩
          refine W.nil ?_
          refine At.thenCode ?_
          refine C.seq ?_
          refine C.region ?_
          refine W.assign rfl rfl ?_
          refine W.nil ?_
          refine At.thenCode ?_
          refine C.ret ?_
          refine At.blockRet ?_
          refine At.thenRet ?_
          refine At.ret1 Try.results28 rfl ?_
          unfold againB
          rw [hag]
          have hs28 := (hX6w.ext hX28).size
          exact ⟨rfl, F', hS33, hF1, fun k hk => (hF2 k hk).imp id fun h => by omega, ((hX6w.ext hX28).mono fun _ c => c.elim).trans hC33⟩
    · have ht1 : t ≠ 1 := fun e => c15 (by rw [e]; rfl)
      refine C.seq ?_
      refine C.region ?_
      refine W.eqlU (n := 2) rfl rfl rfl ?_
      refine W.assign rfl rfl ?_
      refine W.nil ?_
      refine At.thenCode ?_
      first | refine C.condD rfl (fun c34 => ?_) (fun c34 => ?_) | refine C.cond rfl (fun c34 => ?_) (fun c34 => ?_)
      · have ht : t = 2 := UInt8.toNat_inj.1 c34
        subst ht
        refine C.seq ?_
        refine C.region ?_
        refine W.move rfl rfl ?_
        refine W.call Try.call45 rfl (Words.Get64_ok a c (2 :: y) 1 _ hb (by omega) (by omega)) rfl ?_
        rintro v38 w38 ⟨rfl, rfl⟩
        refine W.move rfl rfl ?_
        refine W.extract rfl rfl rfl ?_
        refine W.extract rfl rfl rfl ?_
        refine W.assign rfl rfl ?_
        refine W.assign rfl rfl ?_
        refine W.nil ?_
        refine At.thenCode ?_
        refine C.seq ?_
        refine C.seq ?_
        refine C.region ?_
        refine W.move rfl rfl ?_
        refine W.neqI rfl rfl rfl ?_
        refine W.move rfl rfl ?_
        first | refine W.splitD (fun g43 => ?_) (fun g43 => ?_) | refine W.splitB (fun g43 => ?_) (fun g43 => ?_)
        · refine W.skips rfl rfl rfl rfl rfl rfl ?_
          refine W.skips rfl rfl rfl rfl rfl rfl ?_
          refine W.skips rfl rfl rfl rfl rfl rfl ?_
          refine W.pickT rfl rfl rfl ?_
          refine W.move rfl rfl ?_
          refine W.skips rfl rfl rfl rfl rfl rfl ?_
          refine W.skips rfl rfl rfl rfl rfl rfl ?_
          refine W.pickT rfl rfl rfl ?_
          refine W.nil ?_
          refine At.thenCode ?_
          refine C.condT rfl ?_
          refine C.seq ?_
          refine C.region ?_
          refine W.assign rfl rfl ?_
          refine W.nil ?_
          refine At.thenCode ?_
          refine C.ret ?_
          refine At.thenRet ?_
          refine At.blockRet ?_
          refine At.thenRet ?_
          refine At.ret1 Try.results28 rfl ?_
          have hag : againS s (2 :: y) = none := by
            rw [again_2, if_neg]
            rintro ⟨h8, _⟩
            obtain ⟨hg1, hg2⟩ := getV_tail (t := 2) h8
            have := g43
            omega
          exact hself hS hag (Ext.refl _)
        · refine W.wants rfl rfl rfl rfl ?_
          refine W.move rfl rfl ?_
          refine W.wants rfl rfl rfl rfl ?_
          refine W.lenS rfl Try.underlying51 rfl ?_
          refine W.wants rfl rfl rfl rfl ?_
          refine W.neqI rfl rfl rfl ?_
          refine W.pickF rfl rfl rfl ?_
          refine W.move rfl rfl ?_
          first | refine W.splitD (fun g48 => ?_) (fun g48 => ?_) | refine W.splitB (fun g48 => ?_) (fun g48 => ?_)
          · refine W.skips rfl rfl rfl rfl rfl rfl ?_
            refine W.skips rfl rfl rfl rfl rfl rfl ?_
            refine W.pickT rfl rfl rfl ?_
            refine W.nil ?_
            refine At.thenCode ?_
            refine C.condT rfl ?_
            refine C.seq ?_
            refine C.region ?_
            refine W.assign rfl rfl ?_
            refine W.nil ?_
            refine At.thenCode ?_
            refine C.ret ?_
            refine At.thenRet ?_
            refine At.blockRet ?_
            refine At.thenRet ?_
            refine At.ret1 Try.results28 rfl ?_
            have hag : againS s (2 :: y) = none := by
              rw [again_2, if_neg]
              rintro ⟨h8, _⟩
              have := g48
              omega
            exact hself hS hag (Ext.refl _)
          · refine W.wants rfl rfl rfl rfl ?_
            refine W.move rfl rfl ?_
            refine W.wants rfl rfl rfl rfl ?_
            refine W.gtrU (n := 1099511627776) rfl rfl rfl ?_
            refine W.pickF rfl rfl rfl ?_
            refine W.nil ?_
            refine At.thenCode ?_
            first | refine C.condD rfl (fun c51 => ?_) (fun c51 => ?_) | refine C.cond rfl (fun c51 => ?_) (fun c51 => ?_)
            · refine C.seq ?_
              refine C.region ?_
              refine W.assign rfl rfl ?_
              refine W.nil ?_
              refine At.thenCode ?_
              refine C.ret ?_
              refine At.thenRet ?_
              refine At.blockRet ?_
              refine At.thenRet ?_
              refine At.ret1 Try.results28 rfl ?_
              have hag : againS s (2 :: y) = none := by
                rw [again_2, if_neg]
                rintro ⟨h8, h9⟩
                obtain ⟨hg1, hg2⟩ := getV_tail (t := 2) h8
                rw [hg2] at c51
                omega
              exact hself hS hag (Ext.refl _)
            · have h8 : y.length = 8 := by omega
              obtain ⟨hg1, hg2⟩ := getV_tail (t := 2) h8
              have hn40 : beNat y ≤ 1099511627776 := by rw [← hg2]; omega
              have hag : againS s (2 :: y) = some (goneS s (beNat y)) := by
                rw [again_2, if_pos ⟨h8, hn40⟩]
              refine C.skip ?_
              refine At.thenCode ?_
              refine C.seq ?_
              refine C.region ?_
              refine W.move rfl rfl ?_
              refine W.move rfl rfl ?_
              rw [hg2]
              refine W.convI rfl Try.underlying41 Try.underlying3 (by omega) rfl ?_
              refine W.call Try.call35 rfl (Mbx.expire_ok F g dg s o (beNat y) _ hS hn40 hsl) rfl ?_
              rintro v55 w55 ⟨F', hS55, hF1, hF2, hC55⟩
              refine W.nil ?_
              refine At.thenCode ?_
              refine C.seq ?_
              refine C.region ?_
              refine W.assign rfl rfl ?_
              refine W.nil ?_
              refine At.thenCode ?_
              refine C.ret ?_
              refine At.blockRet ?_
              refine At.thenRet ?_
              refine At.ret1 Try.results28 rfl ?_
              unfold againB
              rw [hag]
              exact ⟨rfl, F', hS55, hF1, hF2, hC55⟩
      · have ht2 : t ≠ 2 := fun e => c34 (by rw [e]; rfl)
        refine C.skip ?_
        refine At.blockNormal ?_
        refine At.thenCode ?_
        refine C.seq ?_
        refine C.region ?_
        refine W.assign rfl rfl ?_
        refine W.nil ?_
        refine At.thenCode ?_
        refine C.ret ?_
        refine At.ret1 Try.results28 rfl ?_
        have hag : againS s (t :: y) = none := again_x s ht1 ht2 y
        exact hself hS hag (Ext.refl _)
end Go.Proofs.Ythiijdbiikljpaa.Mbx
