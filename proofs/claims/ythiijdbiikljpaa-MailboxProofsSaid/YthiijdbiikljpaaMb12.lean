/- Package mailbox: accepting and expiring. -/
import Derived.Test.YthiijdbiikljpaaMb11
namespace Go.Proofs.Ythiijdbiikljpaa.Mbx
open Go Go.RowKit Go.Proofs.Ythiijdbiikljpaa.KW Go.Proofs.Ythiijdbiikljpaa.Words Go.Proofs.Ythiijdbiikljpaa.Sha Go.Proofs.Ythiijdbiikljpaa.RSha Go.Proofs.Ythiijdbiikljpaa.Grp Go.Proofs.Ythiijdbiikljpaa.Cod Go.Proofs.Ythiijdbiikljpaa.Disk
set_option linter.unusedVariables false
set_option linter.unusedSimpArgs false
set_option maxRecDepth 100000
/-- What a call on a store leaves of it and of its disk. -/
structure Both (F Fd : Nat → Prop) (g dg : Nat) (rv : Int) (B : Box) (w w' : World) : Prop where
  out : ∃ F' Fd' : Nat → Prop, St w' F' g dg B.s B.owed ∧ Dk w' Fd' dg rv B.D ∧ (∀ k, F' k → F k ∨ w.heap.size ≤ k) ∧ (∀ k, Fd' k → Fd k ∨ w.heap.size ≤ k) ∧ (∀ k, F' k → ¬ Fd' k)
  chg : Chg (fun k => F k ∨ Fd k) w w'
theorem Both.same {F Fd : Nat → Prop} {g dg : Nat} {rv : Int} {B B' : Box} {w w' : World} (hb : B' = B) (hS : St w F g dg B.s B.owed) (hD : Dk w Fd dg rv B.D) (hd : ∀ k, F k → ¬ Fd k) (hX : Ext w w') : Both F Fd g dg rv B' w w' := by
  rw [hb]
  exact ⟨⟨F, Fd, hS.ext hX, hD.ext hX, fun k hk => .inl hk, fun k hk => .inl hk, hd⟩, hX.mono fun _ c => c.elim⟩
theorem Both.kept {o : Option Nat} {F Fd : Nat → Prop} {g dg : Nat} {rv : Int} {B B' : Box} {w w1 w' : World} (hb : B' = B) (hX : Ext w w1) (hS : St w F g dg B.s o) (hd : ∀ k, F k → ¬ Fd k) (h : Kept F Fd g dg rv B w1 w') : Both F Fd g dg rv B' w w' := by
  rw [hb]
  obtain ⟨Fd', h1, h2⟩ := h.out
  have hs := hX.size
  refine ⟨⟨F, Fd', h.st, h1, fun k hk => .inl hk, fun k hk => (h2 k hk).imp id fun h => by omega, fun k hk hk' => ?_⟩, (hX.mono fun _ c => c.elim).trans (h.chg.mono fun k hk => ?_)⟩
  · rcases h2 k hk' with h3 | h3
    · exact hd k hk h3
    · have := hS.lt k hk; omega
  · rcases hk with rfl | hk
    · exact .inl hS.own
    · exact .inr hk
theorem provedB_len {a b : List Nat} (h : provedB a b = true) : a.length = b.length := by
  have := congrArg List.length (of_decide_eq_true h)
  simpa using this
theorem Accept_ok (F Fd : Nat → Prop) (g dg : Nat) (rv : Int) (B : Box) (x : BatD) (vi vl : Value) (ap : Option Addr) (cp : Nat) (ps : List Nat) (w : World) (hS : St w F g dg B.s B.owed) (hD : Dk w Fd dg rv B.D) (hd : ∀ k, F k → ¬ Fd k) (hrv : 0 ≤ rv) (hb : BatM (fun k => F k ∨ Fd k) w x vi vl) (hp : Els (fun _ => False) w 10 RPub ap cp ps) (hpl : ps.length ≤ 9223372036854775807) (hbl : (batB x).length ≤ 900000) (hDl : B.D.bs.length ≤ 1000000000) (hsl : B.s.l.length ≤ 1000000000) :
    Ct Try.prog 11 #[.pointer (some ⟨g, 0, none⟩), .agg (batC x vi vl).toArray, .slice ap ps.length cp] w (fun v w' => v = .int .i64 (acceptE B x ps : Int) ∧ Both F Fd g dg rv (acceptB B x ps) w w') := by
  obtain ⟨ai, ci, rfl, hU, hUn, hUb⟩ := RNums.form hb.inner
  refine Ct.enter [(0, .pointer (some ⟨g, 0, none⟩)), (1, .agg (batC x (.slice ai x.inner.length ci) vl).toArray), (2, .slice ap ps.length cp)] Try.func11 rfl rfl rfl rfl ?_
  refine C.seq ?_
  refine C.region ?_
  refine W.box (batC x (.slice ai x.inner.length ci) vl) rfl rfl rfl ?_
  intro g4 w4 hg4 hX4 hB4
  refine W.assign rfl rfl ?_
  refine W.nil ?_
  refine At.thenCode ?_
  refine C.seq ?_
  refine C.seq ?_
  refine C.region ?_
  refine W.move rfl rfl ?_
  refine W.loadA rfl (hB4.cells (o := 0)) Try.underlying33 rfl (by kernel_rfl) rfl ?_
  rw [List.drop_zero]
  refine W.call Try.call29 rfl (Mbx.may_ok F _ g dg B.s B.owed x _ vl _ (hS.ext hX4) (hb.ext hX4)) rfl ?_
  rintro v13 w13 ⟨rfl, hX13⟩
  have hX13w := hX4.ext hX13
  have hB13 := hB4.ext hX13
  refine W.assign rfl rfl ?_
  refine W.nil ?_
  refine At.thenCode ?_
  refine C.seq ?_
  refine C.region ?_
  refine W.move rfl rfl ?_
  refine W.neqI rfl rfl rfl ?_
  refine W.nil ?_
  refine At.thenCode ?_
  first | refine C.condD rfl (fun c15 => ?_) (fun c15 => ?_) | refine C.cond rfl (fun c15 => ?_) (fun c15 => ?_)
  · refine C.seq ?_
    refine C.region ?_
    refine W.move rfl rfl ?_
    refine W.assign rfl rfl ?_
    refine W.nil ?_
    refine At.thenCode ?_
    refine C.ret ?_
    refine At.thenRet ?_
    refine At.ret1 Try.results11 rfl ?_
    have hm1 : mayE B.s x ≠ 0 := by omega
    have e1 : acceptE B x ps = mayE B.s x := by unfold acceptE; rw [if_pos hm1]
    have e2 : acceptB B x ps = B := by unfold acceptB; rw [if_pos (.inl hm1)]
    rw [e1]
    exact ⟨rfl, Both.same e2 hS hD hd hX13w⟩
  · have hm0 : mayE B.s x = 0 := by omega
    obtain ⟨m1, m2, m3, m4⟩ := mayE_zero hm0
    refine C.skip ?_
    refine At.thenCode ?_
    refine C.seq ?_
    refine C.seq ?_
    refine C.region ?_
    refine W.fieldB (off := 2) (size := 1) (t := 30) (Fld.of (by kernel_rfl)) rfl rfl rfl ?_
    refine W.loadB (v := .slice ai x.inner.length ci) rfl Try.underlying30 rfl hB13 rfl rfl ?_
    refine W.move rfl rfl ?_
    refine W.call Try.call30 rfl (Mbx.proved_ok ai ci x.inner ap cp ps _ (hU.ext hX13w) hUb (hp.ext rPub hX13w) hb.li hpl) rfl ?_
    rintro v20 w20 ⟨rfl, hX20⟩
    have hX20w := hX13w.ext hX20
    have hB20 := hB13.ext hX20
    first | refine W.notD rfl rfl ?_ | refine W.notB rfl rfl ?_
    refine W.nil ?_
    refine At.thenCode ?_
    first | refine C.condD rfl (fun c21 => ?_) (fun c21 => ?_) | refine C.cond rfl (fun c21 => ?_) (fun c21 => ?_)
    · have hpr : provedB x.inner ps = false := by simpa [provedB] using c21
      refine C.seq ?_
      refine C.region ?_
      refine W.assign rfl rfl ?_
      refine W.nil ?_
      refine At.thenCode ?_
      refine C.ret ?_
      refine At.thenRet ?_
      refine At.ret1 Try.results11 rfl ?_
      have e1 : acceptE B x ps = 10 := by unfold acceptE; rw [if_neg (by omega), if_pos hpr]
      have e2 : acceptB B x ps = B := by unfold acceptB; rw [if_pos (.inr hpr)]
      rw [e1]
      exact ⟨rfl, Both.same e2 hS hD hd hX20w⟩
    · have hpr : provedB x.inner ps = true := by simpa [provedB] using c21
      have haE : acceptE B x ps = keepE B (1 :: batB x) := by unfold acceptE; rw [if_neg (by omega), if_neg (by rw [hpr]; decide)]
      refine C.skip ?_
      refine At.thenCode ?_
      refine C.seq ?_
      refine C.region ?_
      refine W.loadA rfl (hB20.cells (o := 0)) Try.underlying33 rfl (by kernel_rfl) rfl ?_
      rw [List.drop_zero]
      have hb' := (hb.ext hX20w).none
      refine W.call Try.call31 rfl (Cod.Batch_ok x _ vl _ hb'.inner hb'.lets hb'.ok hb'.li hb'.ll hb'.lb) rfl ?_
      rintro v24 w24 ⟨a24, c24, rfl, hN24, hX24⟩
      have hB24 := hB20.ext hX24
      have hX24w := hX20w.ext hX24
      refine W.move rfl rfl ?_
      refine W.extract rfl rfl rfl ?_
      refine W.extract rfl rfl rfl ?_
      refine W.assign rfl rfl ?_
      refine W.assign rfl rfl ?_
      refine W.nil ?_
      refine At.thenCode ?_
      refine C.seq ?_
      refine C.seq ?_
      refine C.region ?_
      refine W.move rfl rfl ?_
      refine W.litB [1] E8 Try.underlying51 rfl rfl rfl rfl rfl ?_
      intro g28 w28 hg28 hX28 ho28 _
      refine W.move rfl rfl ?_
      refine W.appendB (ys := batB x) E8 Try.underlying51 rfl rfl ho28 (hN24.1.ext hX28) (by simp; omega) hX28.size rfl ?_
      intro v30 w30 ho30 hg30 _
      have ho30 : Ow w30 w24.heap.size 5 v30 (1 :: batB x) := ho30
      obtain ⟨a30, c30, rfl, hS30, hq30⟩ := ownsRow_form ho30
      have hX30 : Ext w24 w30 := hX28.news (Chg.of_grown hg30) fun k hk => Or.inr ((World.ownsRow.lt ho28 k hk.symm).1)
      have hX30w := hX24w.ext hX30
      have hs30 := hX30.size
      have hs24 := hX24w.size
      refine W.call Try.call32 rfl (Mbx.keep_ok F Fd g dg rv B a30 c30 (1 :: batB x) _ (hS.ext hX30w) (hD.ext hX30w) hd hrv hS30 (fun ad e _ hk => by
        have := hq30 ad e
        rcases hk with hk | hk
        · have := hS.lt g hS.own; omega
        · have := hD.lt _ hk; omega) (by show (batB x).length + 1 ≤ _; omega) hDl) rfl ?_
      rintro v31 w31 ⟨rfl, hK31⟩
      refine W.assign rfl rfl ?_
      refine W.nil ?_
      refine At.thenCode ?_
      refine C.seq ?_
      refine C.region ?_
      refine W.move rfl rfl ?_
      refine W.neqI rfl rfl rfl ?_
      refine W.nil ?_
      refine At.thenCode ?_
      first | refine C.condD rfl (fun c33 => ?_) (fun c33 => ?_) | refine C.cond rfl (fun c33 => ?_) (fun c33 => ?_)
      · have hk0 : ¬ keepE B (1 :: batB x) = 0 := by omega
        refine C.seq ?_
        refine C.region ?_
        refine W.move rfl rfl ?_
        refine W.assign rfl rfl ?_
        refine W.nil ?_
        refine At.thenCode ?_
        refine C.ret ?_
        refine At.thenRet ?_
        refine At.ret1 Try.results11 rfl ?_
        have e2 : acceptB B x ps = keepB B (1 :: batB x) := by unfold acceptB; rw [if_neg (by rintro (h | h); exact h hm0; rw [hpr] at h; cases h), if_neg hk0]
        rw [haE]
        exact ⟨rfl, Both.kept e2 hX30w (by rw [keepB_s]; exact hS) hd hK31⟩
      · have hk0 : keepE B (1 :: batB x) = 0 := by omega
        have hs31 := hK31.chg.size
        have hB31 : Bk w31 g4 (batC x (.slice ai x.inner.length ci) vl) := (hB24.ext hX30).chg hK31.chg (by
          rintro (h | h)
          · have := hS.lt g hS.own; omega
          · have := hD.lt _ h; omega)
        obtain ⟨Fd', hD31, hF31, hd31⟩ := hK31.sets (fun k hk => Nat.lt_of_lt_of_le (hS.lt k hk) hX30w.size) hd
        have hS31 := hK31.st
        rw [keepB_s] at hS31
        have hC31 : Chg (fun k => F k ∨ Fd k) w w31 := (hX30w.mono fun _ c => c.elim).trans (hK31.chg.mono fun k hk => hk.imp (fun e => by rw [e]; exact hS.own) id)
        have hb31 : BatM F w31 x (.slice ai x.inner.length ci) vl := (hb.chg hC31).new fun k hk _ => .inl hk
        refine C.skip ?_
        refine At.thenCode ?_
        refine C.seq ?_
        refine C.region ?_
        refine W.move rfl rfl ?_
        refine W.loadA rfl (hB31.cells (o := 0)) Try.underlying33 rfl (by kernel_rfl) rfl ?_
        rw [List.drop_zero]
        refine W.call Try.call33 rfl (Mbx.take_ok F g dg B.s _ x _ vl _ hS31 hb31 m4 m2 hsl) rfl ?_
        rintro v37 w37 ⟨F', hS37, hF1, hF2, hC37⟩
        refine W.nil ?_
        refine At.thenCode ?_
        refine C.seq ?_
        refine C.region ?_
        refine W.assign rfl rfl ?_
        refine W.nil ?_
        refine At.thenCode ?_
        refine C.ret ?_
        refine At.ret1 Try.results11 rfl ?_
        have e2 : acceptB B x ps = ⟨(keepB B (1 :: batB x)).D, takeS B.s x, (keepB B (1 :: batB x)).owed⟩ := by unfold acceptB; rw [if_neg (by rintro (h | h); exact h hm0; rw [hpr] at h; cases h), if_pos hk0]
        rw [haE, hk0, e2]
        have hs37 := hC37.size
        refine ⟨rfl, ⟨F', Fd', hS37, hD31.chg hC37 fun k hk hf => hd31 k hf hk, fun k hk => (hF2 k hk).imp id fun h => by omega, fun k hk => (hF31 k hk).imp id fun h => by omega, fun k hk hk' => ?_⟩, hC31.trans (hC37.mono fun k hk => .inl hk)⟩
        rcases hF2 k hk with h | h
        · exact hd31 k h hk'
        · have := hD31.lt k hk'; omega
theorem Expire_ok (F Fd : Nat → Prop) (g dg : Nat) (rv : Int) (B : Box) (r : Int) (w : World) (hS : St w F g dg B.s B.owed) (hD : Dk w Fd dg rv B.D) (hd : ∀ k, F k → ¬ Fd k) (hrv : 0 ≤ rv) (hDl : B.D.bs.length ≤ 1000000000) (hsl : B.s.l.length ≤ 1000000000) (hri : InI r) :
    Ct Try.prog 15 #[.pointer (some ⟨g, 0, none⟩), .int .i64 r] w (fun v w' => v = .int .i64 (expireE B r : Int) ∧ Both F Fd g dg rv (expireB B r) w w') := by
  obtain ⟨mg, lg, X, es1, c1, es2, c2, h1, h2, h3, h4, h5⟩ := hS.out
  have h1' : Bk w g [.pointer (some ⟨dg, 0, none⟩), .map (some mg), .map (some lg), .int .i64 (B.s.past : Int), .int .i64 (owedI B.owed)] := h1
  refine Ct.enter [(0, .pointer (some ⟨g, 0, none⟩)), (1, .int .i64 r)] Try.func15 rfl rfl rfl rfl ?_
  refine C.seq ?_
  refine C.region ?_
  refine W.assign rfl rfl ?_
  refine W.nil ?_
  refine At.thenCode ?_
  refine C.seq ?_
  refine C.seq ?_
  refine C.region ?_
  refine W.move rfl rfl ?_
  refine W.lssI rfl rfl rfl ?_
  refine W.move rfl rfl ?_
  first | refine W.splitD (fun g8 => ?_) (fun g8 => ?_) | refine W.splitB (fun g8 => ?_) (fun g8 => ?_)
  · refine W.skips rfl rfl rfl rfl rfl rfl ?_
    refine W.skips rfl rfl rfl rfl rfl rfl ?_
    refine W.pickT rfl rfl rfl ?_
    refine W.nil ?_
    refine At.thenCode ?_
    refine C.condT rfl ?_
    refine C.seq ?_
    refine C.region ?_
    refine W.assign rfl rfl ?_
    refine W.nil ?_
    refine At.thenCode ?_
    refine C.ret ?_
    refine At.thenRet ?_
    refine At.ret1 Try.results15 rfl ?_
    have e1 : expireE B r = 1 := by unfold expireE; rw [if_pos (by omega)]
    have e2 : expireB B r = B := by unfold expireB; rw [if_pos (by omega)]
    rw [e1]
    exact ⟨rfl, Both.same e2 hS hD hd (Ext.refl _)⟩
  · refine W.wants rfl rfl rfl rfl ?_
    refine W.move rfl rfl ?_
    refine W.wants rfl rfl rfl rfl ?_
    refine W.gtrI rfl rfl rfl ?_
    refine W.pickF rfl rfl rfl ?_
    refine W.nil ?_
    refine At.thenCode ?_
    first | refine C.condD rfl (fun c11 => ?_) (fun c11 => ?_) | refine C.cond rfl (fun c11 => ?_) (fun c11 => ?_)
    · refine C.seq ?_
      refine C.region ?_
      refine W.assign rfl rfl ?_
      refine W.nil ?_
      refine At.thenCode ?_
      refine C.ret ?_
      refine At.thenRet ?_
      refine At.ret1 Try.results15 rfl ?_
      have e1 : expireE B r = 1 := by unfold expireE; rw [if_pos (by omega)]
      have e2 : expireB B r = B := by unfold expireB; rw [if_pos (by omega)]
      rw [e1]
      exact ⟨rfl, Both.same e2 hS hD hd (Ext.refl _)⟩
    · have hr0 : 0 ≤ r ∧ r ≤ 1099511627776 := by omega
      refine C.skip ?_
      refine At.thenCode ?_
      refine C.seq ?_
      refine C.seq ?_
      refine C.region ?_
      refine W.move rfl rfl ?_
      refine W.move rfl rfl ?_
      refine W.nilCheck rfl rfl ?_
      refine W.fieldB (off := 3) (size := 1) (t := 3) (Fld.of (by kernel_rfl)) rfl rfl rfl ?_
      refine W.loadB (v := .int .i64 (B.s.past : Int)) rfl Try.underlying3 rfl h1' rfl rfl ?_
      refine W.leqI rfl rfl rfl ?_
      refine W.nil ?_
      refine At.thenCode ?_
      first | refine C.condD rfl (fun c17 => ?_) (fun c17 => ?_) | refine C.cond rfl (fun c17 => ?_) (fun c17 => ?_)
      · refine C.seq ?_
        refine C.region ?_
        refine W.assign rfl rfl ?_
        refine W.nil ?_
        refine At.thenCode ?_
        refine C.ret ?_
        refine At.thenRet ?_
        refine At.ret1 Try.results15 rfl ?_
        have e1 : expireE B r = 0 := by unfold expireE; rw [if_neg (by omega), if_pos c17]
        have e2 : expireB B r = B := by unfold expireB; rw [if_pos (by omega)]
        rw [e1]
        exact ⟨rfl, Both.same e2 hS hD hd (Ext.refl _)⟩
      · have hpast : ¬ r ≤ (B.s.past : Int) := c17
        have hrn : ((r.toNat : Nat) : Int) = r := by omega
        have heE : expireE B r = keepE B (2 :: be64 r.toNat) := by unfold expireE; rw [if_neg (by omega), if_neg hpast]
        refine C.skip ?_
        refine At.thenCode ?_
        refine C.seq ?_
        refine C.seq ?_
        refine C.region ?_
        refine W.move rfl rfl ?_
        refine W.litB [2] E8 Try.underlying51 rfl rfl rfl rfl rfl ?_
        intro g19 w19 hg19 hX19 ho19 hb19
        refine W.move rfl rfl ?_
        first | refine W.convIN (M := 18446744073709551616) rfl Try.underlying3 Try.underlying41 rfl rfl (by omega) rfl ?_ | refine W.convIU (M := 18446744073709551616) rfl Try.underlying3 Try.underlying41 rfl rfl rfl ?_
        refine W.call Try.call34 rfl (Words.Put64_ok _ _ [2] r.toNat _ hb19 (by simp)) rfl ?_
        rintro v22 w22 ⟨ho22, hX22⟩
        have ho22 : Ow w22 w19.heap.size 5 v22 (2 :: be64 r.toNat) := ho22
        obtain ⟨a22, c22, rfl, hS22, hq22⟩ := ownsRow_form ho22
        have hX22w := hX19.ext hX22
        have hs19 := hX19.size
        refine W.call Try.call32 rfl (Mbx.keep_ok F Fd g dg rv B a22 c22 (2 :: be64 r.toNat) _ (hS.ext hX22w) (hD.ext hX22w) hd hrv hS22 (fun ad e _ hk => by
          have := hq22 ad e
          rcases hk with hk | hk
          · have := hS.lt g hS.own; omega
          · have := hD.lt _ hk; omega) (by show (be64 r.toNat).length + 1 ≤ _; rw [be64_length]; decide) hDl) rfl ?_
        rintro v23 w23 ⟨rfl, hK23⟩
        refine W.assign rfl rfl ?_
        refine W.nil ?_
        refine At.thenCode ?_
        refine C.seq ?_
        refine C.region ?_
        refine W.move rfl rfl ?_
        refine W.neqI rfl rfl rfl ?_
        refine W.nil ?_
        refine At.thenCode ?_
        first | refine C.condD rfl (fun c25 => ?_) (fun c25 => ?_) | refine C.cond rfl (fun c25 => ?_) (fun c25 => ?_)
        · have hk0 : ¬ keepE B (2 :: be64 r.toNat) = 0 := by omega
          refine C.seq ?_
          refine C.region ?_
          refine W.move rfl rfl ?_
          refine W.assign rfl rfl ?_
          refine W.nil ?_
          refine At.thenCode ?_
          refine C.ret ?_
          refine At.thenRet ?_
          refine At.ret1 Try.results15 rfl ?_
          have e2 : expireB B r = keepB B (2 :: be64 r.toNat) := by unfold expireB; rw [if_neg (by omega), if_neg hk0]
          rw [heE]
          exact ⟨rfl, Both.kept e2 hX22w (by rw [keepB_s]; exact hS) hd hK23⟩
        · have hk0 : keepE B (2 :: be64 r.toNat) = 0 := by omega
          have hs23 := hK23.chg.size
          obtain ⟨Fd', hD23, hF23, hd23⟩ := hK23.sets (fun k hk => Nat.lt_of_lt_of_le (hS.lt k hk) hX22w.size) hd
          have hS23 := hK23.st
          rw [keepB_s] at hS23
          have hC23 : Chg (fun k => F k ∨ Fd k) w w23 := (hX22w.mono fun _ c => c.elim).trans (hK23.chg.mono fun k hk => hk.imp (fun e => by rw [e]; exact hS.own) id)
          refine C.skip ?_
          refine At.thenCode ?_
          refine C.seq ?_
          refine C.region ?_
          refine W.move rfl rfl ?_
          refine W.move rfl rfl ?_
          have hex := Mbx.expire_ok F g dg B.s _ r.toNat _ hS23 (by omega) hsl
          rw [hrn] at hex
          refine W.call Try.call35 rfl hex rfl ?_
          rintro v29 w29 ⟨F', hS29, hF1, hF2, hC29⟩
          refine W.nil ?_
          refine At.thenCode ?_
          refine C.seq ?_
          refine C.region ?_
          refine W.assign rfl rfl ?_
          refine W.nil ?_
          refine At.thenCode ?_
          refine C.ret ?_
          refine At.ret1 Try.results15 rfl ?_
          have e2 : expireB B r = ⟨(keepB B (2 :: be64 r.toNat)).D, goneS B.s r.toNat, (keepB B (2 :: be64 r.toNat)).owed⟩ := by unfold expireB; rw [if_neg (by omega), if_pos hk0]
          rw [heE, hk0, e2]
          have hs29 := hC29.size
          have hs22 := hX22w.size
          refine ⟨rfl, ⟨F', Fd', hS29, hD23.chg hC29 fun k hk hf => hd23 k hf hk, fun k hk => (hF2 k hk).imp id fun h => by omega, fun k hk => (hF23 k hk).imp id fun h => by omega, fun k hk hk' => ?_⟩, hC23.trans (hC29.mono fun k hk => .inl hk)⟩
          rcases hF2 k hk with h | h
          · exact hd23 k h hk'
          · have := hD23.lt k hk'; omega
end Go.Proofs.Ythiijdbiikljpaa.Mbx
