/- The reference's store: expiring and accepting. The reference's store: accepting. The reference's store: fetching. Package disk and the reference's disk: Crash. Both stores, mailbox's and the reference's, each with its disk, as the law on plays meets them: two things in memory that lie apart. Chapter 11's example of a batch that is too big for a law. -/
import Derived.Test.YthiijdbiikljpaaGreatZm
import Derived.Test.YthiijdbiikljpaaGreatZf
import Derived.Test.YthiijdbiikljpaaGreatZl
namespace Go.Proofs.YthiijdbiikljpaaGreat.Mbx
open Go Go.RowKit Go.Proofs.YthiijdbiikljpaaGreat.KW Go.Proofs.YthiijdbiikljpaaGreat.Words Go.Proofs.YthiijdbiikljpaaGreat.Sha Go.Proofs.YthiijdbiikljpaaGreat.RSha Go.Proofs.YthiijdbiikljpaaGreat.Grp Go.Proofs.YthiijdbiikljpaaGreat.Cod Go.Proofs.YthiijdbiikljpaaGreat.Disk
set_option linter.unusedVariables false
set_option linter.unusedSimpArgs false
set_option maxRecDepth 100000
structure RBoth (F Fd : Nat → Prop) (g dg : Nat) (rv : Int) (B : Box) (w w' : World) : Prop where
  out : ∃ F' Fd' : Nat → Prop, RSt w' F' g dg B.s B.owed ∧ Dk w' Fd' dg rv B.D ∧ (∀ k, F' k → F k ∨ w.heap.size ≤ k) ∧ (∀ k, Fd' k → Fd k ∨ w.heap.size ≤ k) ∧ (∀ k, F' k → ¬ Fd' k)
  chg : Chg (fun k => F k ∨ Fd k) w w'
theorem RBoth.same {F Fd : Nat → Prop} {g dg : Nat} {rv : Int} {B B' : Box} {w w' : World} (hb : B' = B) (hS : RSt w F g dg B.s B.owed) (hD : Dk w Fd dg rv B.D) (hd : ∀ k, F k → ¬ Fd k) (hX : Ext w w') : RBoth F Fd g dg rv B' w w' := by
 rw [hb]
 exact ⟨⟨F, Fd, hS.ext hX, hD.ext hX, fun k hk => .inl hk, fun k hk => .inl hk, hd⟩, hX.mono fun _ c => c.elim⟩
theorem RBoth.kept {o : Option Nat} {F Fd : Nat → Prop} {g dg : Nat} {rv : Int} {B B' : Box} {w w1 w' : World} (hb : B' = B) (hX : Ext w w1) (hS : RSt w F g dg B.s o) (hd : ∀ k, F k → ¬ Fd k) (h : RKept F Fd g dg rv B w1 w') : RBoth F Fd g dg rv B' w w' := by
 rw [hb]
 obtain ⟨Fd', h1, h2⟩ := h.out
 have hs := hX.size
 refine ⟨⟨F, Fd', h.st, h1, fun k hk => .inl hk, fun k hk => (h2 k hk).imp id fun h => by omega, fun k hk hk' => ?_⟩, (hX.mono fun _ c => c.elim).trans (h.chg.mono fun k hk => ?_)⟩
 rcases h2 k hk' with h3 | h3
 exact hd k hk h3
 have := hS.lt k hk; omega
 rcases hk with rfl | hk
 exact .inl hS.own
 exact .inr hk
theorem RExpire_ok (F Fd : Nat → Prop) (g dg : Nat) (rv : Int) (B : Box) (r : Int) (w : World) (hS : RSt w F g dg B.s B.owed) (hD : Dk w Fd dg rv B.D) (hd : ∀ k, F k → ¬ Fd k) (hDl : B.D.bs.length ≤ 1000000000) (hsl : B.s.l.length ≤ 1000000000) (hri : InI r) :
   Ct Tryz.prog 15 #[.pointer (some ⟨g, 0, none⟩), .int .i64 r] w (fun v w' => v = .int .i64 (expireE B r : Int) ∧ RBoth F Fd g dg rv (expireB B r) w w') := by
 obtain ⟨aK, cK, h1, _, _, _⟩ := hS.form
 have h1' := h1
 refine Ct.enter [(0, .pointer (some ⟨g, 0, none⟩)), (1, .int .i64 r)] Tryz.func15 rfl rfl rfl rfl ?_
 refine C.seq (C.region (W.assign rfl rfl (W.nil (At.thenCode (C.seq (C.seq (C.region (W.move rfl rfl (W.lssI rfl rfl rfl (W.move rfl rfl ?_))))))))))
 refine W.splitD (fun g8 => ?_) (fun g8 => ?_)
 refine W.skips rfl rfl rfl rfl rfl rfl (W.skips rfl rfl rfl rfl rfl rfl (W.pickT rfl rfl rfl (W.nil (At.thenCode ?_))))
 refine C.condT rfl ?_
 refine C.seq (C.region (W.assign rfl rfl (W.nil (At.thenCode (C.ret (At.thenRet ?_))))))
 refine At.ret1 Tryz.results15 rfl ?_
 have e1 : expireE B r = 1 := by unfold expireE; rw [if_pos (by omega)]
 have e2 : expireB B r = B := by unfold expireB; rw [if_pos (by omega)]
 rw [e1]
 exact ⟨rfl, RBoth.same e2 hS hD hd (Ext.refl _)⟩
 refine W.wants rfl rfl rfl rfl (W.move rfl rfl (W.wants rfl rfl rfl rfl (W.gtrI rfl rfl rfl (W.pickF rfl rfl rfl (W.nil (At.thenCode ?_))))))
 refine C.condD rfl (fun c11 => ?_) (fun c11 => ?_)
 refine C.seq (C.region (W.assign rfl rfl (W.nil (At.thenCode (C.ret (At.thenRet ?_))))))
 refine At.ret1 Tryz.results15 rfl ?_
 have e1 : expireE B r = 1 := by unfold expireE; rw [if_pos (by omega)]
 have e2 : expireB B r = B := by unfold expireB; rw [if_pos (by omega)]
 rw [e1]
 exact ⟨rfl, RBoth.same e2 hS hD hd (Ext.refl _)⟩
 have hr0 : 0 ≤ r ∧ r ≤ 1099511627776 := by omega
 refine C.skip (At.thenCode (C.seq (C.seq (C.region (W.move rfl rfl (W.move rfl rfl (W.nilCheck rfl rfl (W.fieldB (off := 2) (size := 1) (t := 3) (Fld.of (by kernel_rfl)) rfl rfl rfl ?_))))))))
 refine W.loadB (v := .int .i64 (B.s.past : Int)) rfl Tryz.underlying3 rfl h1' rfl rfl ?_
 refine W.leqI rfl rfl rfl (W.nil (At.thenCode ?_))
 refine C.condD rfl (fun c17 => ?_) (fun c17 => ?_)
 refine C.seq (C.region (W.assign rfl rfl (W.nil (At.thenCode (C.ret (At.thenRet ?_))))))
 refine At.ret1 Tryz.results15 rfl ?_
 have e1 : expireE B r = 0 := by unfold expireE; rw [if_neg (by omega), if_pos c17]
 have e2 : expireB B r = B := by unfold expireB; rw [if_pos (by omega)]
 rw [e1]
 exact ⟨rfl, RBoth.same e2 hS hD hd (Ext.refl _)⟩
 have hpast : ¬ r ≤ (B.s.past : Int) := c17
 have hrn : ((r.toNat : Nat) : Int) = r := by omega
 have heE : expireE B r = keepE B (2 :: be64 r.toNat) := by unfold expireE; rw [if_neg (by omega), if_neg hpast]
 refine C.skip (At.thenCode (C.seq (C.region (W.move rfl rfl ?_))))
 refine W.litB [2] E8 Tryz.underlying22 rfl rfl rfl rfl rfl ?_
 intro g19 w19 hg19 hX19 ho19 hb19
 refine W.move rfl rfl ?_
 refine W.convIN (M := 18446744073709551616) rfl Tryz.underlying3 Tryz.underlying83 rfl rfl (by omega) rfl ?_
 refine W.call Tryz.call46 rfl (Words.RPut64_ok _ _ [2] r.toNat _ hb19 (by simp)) rfl ?_
 rintro v22 w22 ⟨ho22, hX22⟩
 have ho22 : Ow w22 w19.heap.size 5 v22 (2 :: be64 r.toNat) := ho22
 obtain ⟨a22, c22, rfl, hS22, hq22⟩ := ownsRow_form ho22
 have hX22w := hX19.ext hX22
 have hs19 := hX19.size
 refine W.call Tryz.call42 rfl (Mbx.rkeep_ok F Fd g dg rv B a22 c22 (2 :: be64 r.toNat) _ (hS.ext hX22w) (hD.ext hX22w) hd hS22 (fun ad e _ hk => by
   have := hq22 ad e
   rcases hk with hk | hk
   have := hS.lt g hS.own; omega
   have := hD.lt _ hk; omega) (by show (be64 r.toNat).length + 1 ≤ _; rw [be64_length]; decide) hDl) rfl ?_
 rintro v23 w23 ⟨rfl, hK23⟩
 refine W.assign rfl rfl (W.nil (At.thenCode (C.seq (C.seq (C.region (W.move rfl rfl (W.neqI rfl rfl rfl (W.nil (At.thenCode ?_)))))))))
 refine C.condD rfl (fun c25 => ?_) (fun c25 => ?_)
 have hk0 : ¬ keepE B (2 :: be64 r.toNat) = 0 := by omega
 refine C.seq (C.region (W.move rfl rfl (W.assign rfl rfl (W.nil (At.thenCode (C.ret (At.thenRet ?_)))))))
 refine At.ret1 Tryz.results15 rfl ?_
 have e2 : expireB B r = keepB B (2 :: be64 r.toNat) := by unfold expireB; rw [if_neg (by omega), if_neg hk0]
 rw [heE]
 exact ⟨rfl, RBoth.kept e2 hX22w (by rw [keepB_s]; exact hS) hd hK23⟩
 have hk0 : keepE B (2 :: be64 r.toNat) = 0 := by omega
 have hs23 := hK23.chg.size
 obtain ⟨Fd', hD23, hF23, hd23⟩ := hK23.sets (fun k hk => Nat.lt_of_lt_of_le (hS.lt k hk) hX22w.size) hd
 have hS23 := hK23.st
 rw [keepB_s] at hS23
 have hC23 : Chg (fun k => F k ∨ Fd k) w w23 := (hX22w.mono fun _ c => c.elim).trans (hK23.chg.mono fun k hk => hk.imp (fun e => by rw [e]; exact hS.own) id)
 refine C.skip (At.thenCode (C.seq (C.region (W.move rfl rfl (W.move rfl rfl ?_)))))
 have hex := Mbx.rgone_ok F g dg B.s _ r.toNat _ hS23 (by omega) hsl
 rw [hrn] at hex
 refine W.call Tryz.call47 rfl hex rfl ?_
 rintro v29 w29 ⟨hS29, hC29⟩
 refine W.nil (At.thenCode (C.seq (C.region (W.assign rfl rfl (W.nil (At.thenCode (C.ret ?_)))))))
 refine At.ret1 Tryz.results15 rfl ?_
 have e2 : expireB B r = ⟨(keepB B (2 :: be64 r.toNat)).D, goneS B.s r.toNat, (keepB B (2 :: be64 r.toNat)).owed⟩ := by unfold expireB; rw [if_neg (by omega), if_pos hk0]
 have e3 : goneS B.s r.toNat = ⟨goneL B.s.l r.toNat, r.toNat⟩ := by unfold goneS; rw [if_neg (by omega)]
 rw [heE, hk0, e2, e3]
 have hs29 := hC29.size
 have hs22 := hX22w.size
 refine ⟨rfl, ⟨Grown F w23 w29, Fd', hS29, hD23.chg hC29 fun k hk hf => by subst hf; exact hd23 _ hS.own hk, fun k hk => hk.imp id fun h => by omega, fun k hk => (hF23 k hk).imp id fun h => by omega, fun k hk hk' => ?_⟩, hC23.trans (hC29.mono fun k hk => .inl (by subst hk; exact hS.own))⟩
 rcases hk with h | h
 exact hd23 k h hk'
 have := hD23.lt k hk'; omega
theorem proved_step {xs ps : List Nat} {i : Nat} (h1 : i < xs.length) (h2 : i < ps.length) (h : (xs.take i).map (timesV 37) = ps.take i) (e : timesV 37 (xs[i]'h1) = ps[i]'h2) : (xs.take (i + 1)).map (timesV 37) = ps.take (i + 1) := by
 rw [List.take_succ_eq_append_getElem h1, List.take_succ_eq_append_getElem h2, List.map_append, h, List.map_singleton, e]
theorem RAccept_ok (F Fd : Nat → Prop) (g dg : Nat) (rv : Int) (B : Box) (x : BatD) (vi vl : Value) (ap : Option Addr) (cp : Nat) (ps : List Nat) (w : World) (hS : RSt w F g dg B.s B.owed) (hD : Dk w Fd dg rv B.D) (hd : ∀ k, F k → ¬ Fd k) (hb : BatM (fun k => F k ∨ Fd k) w x vi vl) (hp : Els (fun _ => False) w 10 RPub ap cp ps) (hpl : ps.length ≤ 9223372036854775807) (hbl : (batB x).length ≤ 900000) (hDl : B.D.bs.length ≤ 1000000000) (hsl : B.s.l.length ≤ 1000000000) :
   Ct Tryz.prog 13 #[.pointer (some ⟨g, 0, none⟩), .agg (batC x vi vl).toArray, .slice ap ps.length cp] w (fun v w' => v = .int .i64 (acceptE B x ps : Int) ∧ RBoth F Fd g dg rv (acceptB B x ps) w w') := by
 obtain ⟨ai, ci, rfl, hU, hUn, hUb⟩ := RNums.form hb.inner
 refine Ct.enter [(0, .pointer (some ⟨g, 0, none⟩)), (1, .agg (batC x (.slice ai x.inner.length ci) vl).toArray), (2, .slice ap ps.length cp)] Tryz.func13 rfl rfl rfl rfl ?_
 refine C.seq (C.region ?_)
 refine W.box (batC x (.slice ai x.inner.length ci) vl) rfl rfl rfl ?_
 intro g4 w4 hg4 hX4 hB4
 refine W.assign rfl rfl (W.nil (At.thenCode (C.seq (C.region (W.move rfl rfl ?_)))))
 refine W.loadA rfl (hB4.cells (o := 0)) Tryz.underlying39 rfl (by kernel_rfl) rfl ?_
 rw [List.drop_zero]
 refine W.call Tryz.call39 rfl (Mbx.rmay_ok F _ g dg B.s B.owed x _ vl _ (hS.ext hX4) (hb.ext hX4) hsl) rfl ?_
 rintro v15 w15 ⟨rfl, hX15⟩
 have hX15w := hX4.ext hX15
 have hB15 := hB4.ext hX15
 refine W.assign rfl rfl (W.nil (At.thenCode (C.seq (C.seq (C.region (W.move rfl rfl (W.neqI rfl rfl rfl (W.nil (At.thenCode ?_)))))))))
 refine C.condD rfl (fun c17 => ?_) (fun c17 => ?_)
 refine C.seq (C.region (W.move rfl rfl (W.assign rfl rfl (W.nil (At.thenCode (C.ret (At.thenRet ?_)))))))
 refine At.ret1 Tryz.results13 rfl ?_
 have hm1 : mayE B.s x ≠ 0 := by omega
 have e1 : acceptE B x ps = mayE B.s x := by unfold acceptE; rw [if_pos hm1]
 have e2 : acceptB B x ps = B := by unfold acceptB; rw [if_pos (.inl hm1)]
 rw [e1]
 exact ⟨rfl, RBoth.same e2 hS hD hd hX15w⟩
 have hm0 : mayE B.s x = 0 := by omega
 obtain ⟨m1, m2, m3, m4⟩ := mayE_zero hm0
 refine C.skip (At.thenCode (C.seq (C.seq (C.region (W.fieldB (off := 2) (size := 1) (t := 36) (Fld.of (by kernel_rfl)) rfl rfl rfl ?_)))))
 refine W.loadB (v := .slice ai x.inner.length ci) rfl Tryz.underlying36 rfl hB15 rfl rfl ?_
 refine W.lenS rfl Tryz.underlying36 rfl (W.move rfl rfl (W.lenS rfl Tryz.underlying40 rfl (W.neqI rfl rfl rfl (W.nil (At.thenCode ?_)))))
 refine C.condD rfl (fun c24 => ?_) (fun c24 => ?_)
 have hpr : provedB x.inner ps = false := decide_eq_false fun e => by have := congrArg List.length e; rw [List.length_map] at this; omega
 refine C.seq (C.region (W.assign rfl rfl (W.nil (At.thenCode (C.ret (At.thenRet ?_))))))
 refine At.ret1 Tryz.results13 rfl ?_
 have e1 : acceptE B x ps = 10 := by unfold acceptE; rw [if_neg (by omega), if_pos hpr]
 have e2 : acceptB B x ps = B := by unfold acceptB; rw [if_pos (.inr hpr)]
 rw [e1]
 exact ⟨rfl, RBoth.same e2 hS hD hd hX15w⟩
 have hlen : x.inner.length = ps.length := by omega
 refine C.skip (At.thenCode (C.seq (C.seq (C.region (W.assign rfl rfl (W.nil (At.thenCode (C.block ?_))))))))
 refine C.loop (X := Nat) (fun x_ => [(0, .pointer (some ⟨g, 0, none⟩)), (2, .slice ap ps.length cp), (4, .pointer (some ⟨g4, 0, none⟩)), (8, .int .i64 (x_ : Int))]) (fun x_ w1 => x_ ≤ ps.length ∧ Ext w15 w1 ∧ (x.inner.take x_).map (timesV 37) = ps.take x_) (fun x_ => ps.length - x_) (0) (sc rfl (sc rfl (sc rfl (sc rfl (Sub.nil))))) ?start1 ?_
 case start1 =>
   show (0) ≤ ps.length ∧ Ext w15 _ ∧ (x.inner.take (0)).map (timesV 37) = ps.take (0)
   exact ⟨by omega, Ext.refl _, rfl⟩
 rintro i w1 hI_
 replace hI_ : i ≤ ps.length ∧ Ext w15 w1 ∧ (x.inner.take i).map (timesV 37) = ps.take i := hI_
 obtain ⟨hi, hX1, hE1⟩ := hI_
 refine C.weaken (l' := [(0, .pointer (some ⟨g, 0, none⟩)), (2, .slice ap ps.length cp), (4, .pointer (some ⟨g4, 0, none⟩)), (8, .int .i64 (i : Int))]) (sc rfl (sc rfl (sc rfl (sc rfl (Sub.nil))))) ?_
 refine C.seq (C.seq (C.region (W.move rfl rfl (W.move rfl rfl (W.lenS rfl Tryz.underlying40 rfl (W.lssI rfl rfl rfl (W.nil (At.thenCode ?_))))))))
 refine C.condD rfl (fun c28 => ?_) (fun c28 => ?_)
 have hlt : i < ps.length := by omega
 have hlt' : i < x.inner.length := by omega
 obtain ⟨px, hpx⟩ : ∃ px, px = x.inner[i] := ⟨_, rfl⟩
 obtain ⟨pp, hpp⟩ : ∃ pp, pp = ps[i] := ⟨_, rfl⟩
 have hX1w := hX15w.ext hX1
 refine C.skip (At.thenCode (C.seq (C.block (C.seq ?_))))
 refine C.regionAny 12 (E_ (.pointer (some ⟨g4, 2, none⟩)) :: E_ (.slice ai x.inner.length ci) :: E_ (.int .i64 (i : Int)) :: (fun v w => ∃ ad, v = .pointer (some ad) ∧ w.cell? ad = some (u64V px)) :: E_ (.int .u64 ((px : Nat) : Int)) :: E_ (.int .u64 ((timesV 37 px : Nat) : Int)) :: E_ (.slice ap ps.length cp) :: E_ (.int .i64 (i : Int)) :: (fun v w => ∃ ad, v = .pointer (some ad) ∧ ∃ cs, Cells w ad cs ∧ cs[3]? = some (.int .u64 ((pp : Nat) : Int))) :: (fun v w => ∃ ad, v = .pointer (some ad) ∧ w.cell? ad = some (.int .u64 ((pp : Nat) : Int))) :: E_ (.int .u64 ((pp : Nat) : Int)) :: E_ (.bool (decide (¬ timesV 37 px = pp))) :: []) [(0, .pointer (some ⟨g, 0, none⟩)), (2, .slice ap ps.length cp), (4, .pointer (some ⟨g4, 0, none⟩)), (8, .int .i64 (i : Int))] [] (sc rfl (sc rfl (sc rfl (sc rfl (Sub.nil))))) (Sub.nil) (sc rfl (sc rfl (sc rfl (sc rfl (Sub.nil))))) (by kernel_rfl) rfl rfl rfl (sN (sN (sN (sM (fun _ _ _ h g => by obtain ⟨ad, e, h1⟩ := h; exact ⟨ad, e, Chg.cell g h1 fun c => c⟩) (sN (sN (sN (sN (sM (fun _ _ _ h g => by obtain ⟨ad, e, cs, h1, h2⟩ := h; exact ⟨ad, e, cs, h1.chg g (fun c => c), h2⟩) (sM (fun _ _ _ h g => by obtain ⟨ad, e, h1⟩ := h; exact ⟨ad, e, Chg.cell g h1 fun c => c⟩) (sN (sN (trivial))))))))))))) ?_ ?_
 refine And.intro ?_ ?_
 intro L_ wr hX_ hs_ hf_ hd_
 exact W.s1 (hs_ 4 _ rfl) (W.fieldB (off := 2) (size := 1) (t := 36) (Fld.of (by kernel_rfl)) rfl rfl rfl (W.e0 rfl))
 refine And.intro ?_ ?_
 intro L_ wr hX_ hs_ hf_ hd_
 obtain ⟨_, e0, rfl⟩ := hd_ 0 rfl
 refine W.s1 (e0 _ rfl) ?_
 refine W.loadB (v := .slice ai x.inner.length ci) rfl Tryz.underlying36 rfl ((hB15.ext hX1).ext hX_) rfl rfl ?_
 exact W.e0 rfl
 refine And.intro (mB rfl rfl (fun _ => rfl) rfl) ?_
 refine And.intro ?_ ?_
 intro L_ wr hX_ hs_ hf_ hd_
 obtain ⟨_, e1, rfl⟩ := hd_ 1 rfl
 obtain ⟨_, e2, rfl⟩ := hd_ 2 rfl
 refine W.s2 (e1 _ rfl) (e2 _ rfl) ?_
 refine W.indexS (i := (i : Int)) U64 Tryz.underlying36 rfl ((hU.ext hX1w).ext hX_) rfl ⟨by omega, by omega⟩ rfl ?_
 intro ad34 _ _ hq34
 have hc34 := hq34 0 (u64V px) (by rw [List.getElem?_drop, Int.toNat_natCast, Nat.mul_one, Nat.add_zero, hpx]; exact get_u64 hlt')
 rw [add_zero'] at hc34
 exact W.e0 ⟨ad34, rfl, hc34⟩
 refine And.intro ?_ ?_
 intro L_ wr hX_ hs_ hf_ hd_
 obtain ⟨v3, e3, r3⟩ := hd_ 3 rfl
 obtain ⟨ad3, rfl, hc3⟩ := r3
 refine W.s1 (e3 _ rfl) ?_
 refine W.load (v := .int .u64 ((px : Nat) : Int)) rfl Tryz.underlying83 rfl hc3 rfl ?_
 exact W.e0 rfl
 refine And.intro ?_ ?_
 intro L_ wr hX_ hs_ hf_ hd_
 obtain ⟨_, e4, rfl⟩ := hd_ 4 rfl
 refine W.s1 (e4 _ rfl) ?_
 refine W.call Tryz.call40 rfl (Grp.RBase_ok px (hpx ▸ hUb _ (List.getElem_mem hlt')) _) rfl ?_
 rintro v36 w36 ⟨rfl, rfl⟩
 exact W.e0 rfl
 refine And.intro (mB rfl rfl (fun _ => rfl) rfl) ?_
 refine And.intro (mB rfl rfl (fun _ => rfl) rfl) ?_
 refine And.intro ?_ ?_
 intro L_ wr hX_ hs_ hf_ hd_
 obtain ⟨_, e6, rfl⟩ := hd_ 6 rfl
 obtain ⟨_, e7, rfl⟩ := hd_ 7 rfl
 refine W.s2 (e6 _ rfl) (e7 _ rfl) ?_
 refine W.indexE EPub Tryz.underlying40 rfl ((hp.ext rPub hX1w).ext rPub hX_) rfl hlt rfl ?_
 rintro ad39 cs39 hc39 hR39 _
 exact W.e0 ⟨ad39, rfl, cs39, hc39, by rw [hR39.2.2.1, hpp]⟩
 refine And.intro ?_ ?_
 intro L_ wr hX_ hs_ hf_ hd_
 obtain ⟨v8, e8, r8⟩ := hd_ 8 rfl
 obtain ⟨ad8, rfl, cs8, hc8, hq8⟩ := r8
 refine W.s1 (e8 _ rfl) ?_
 refine W.fieldAddr (off := 3) (size := 1) (t := 83) (Fld.of (by kernel_rfl)) rfl rfl rfl ?_
 exact W.e0 ⟨ad8.add 3, rfl, hc8 3 _ hq8⟩
 refine And.intro ?_ ?_
 intro L_ wr hX_ hs_ hf_ hd_
 obtain ⟨v9, e9, r9⟩ := hd_ 9 rfl
 obtain ⟨ad9, rfl, hc9⟩ := r9
 refine W.s1 (e9 _ rfl) ?_
 refine W.load (v := .int .u64 ((pp : Nat) : Int)) rfl Tryz.underlying83 rfl hc9 rfl ?_
 exact W.e0 rfl
 refine And.intro ?_ ?_
 intro L_ wr hX_ hs_ hf_ hd_
 obtain ⟨_, e5, rfl⟩ := hd_ 5 rfl
 obtain ⟨_, e10, rfl⟩ := hd_ 10 rfl
 refine W.s2 (e5 _ rfl) (e10 _ rfl) ?_
 refine W.neqU rfl rfl rfl ?_
 exact W.e0 rfl
 exact trivial
 intro L_ wr hX9 hs_ hv_
 obtain ⟨_, e11, rfl⟩ := hv_ 11 (by decide)
 refine W.weaken (l' := [(42, _), (0, _), (2, _), (4, _), (8, _)]) (sc (e11 _ rfl) (sc (hs_ _ _ rfl) (sc (hs_ _ _ rfl) (sc (hs_ _ _ rfl) (sc (hs_ _ _ rfl) (Sub.nil)))))) ?_
 refine W.nil (At.thenCode ?_)
 refine C.condD rfl (fun c42 => ?_) (fun c42 => ?_)
 have hpr : provedB x.inner ps = false := decide_eq_false fun e => by
   have h1 : (x.inner.map (timesV 37))[i]? = ps[i]? := by rw [e]
   rw [List.getElem?_map, List.getElem?_eq_getElem hlt', List.getElem?_eq_getElem hlt, ← hpx, ← hpp] at h1
   exact c42 (by simpa using h1)
 refine C.seq (C.region (W.assign rfl rfl (W.nil (At.thenCode (C.ret (At.blockRet (At.thenRet (At.thenRet (At.blockRet (At.thenRet ?_))))))))))
 refine At.ret1 Tryz.results13 rfl ?_
 have e1 : acceptE B x ps = 10 := by unfold acceptE; rw [if_neg (by omega), if_pos hpr]
 have e2 : acceptB B x ps = B := by unfold acceptB; rw [if_pos (.inr hpr)]
 rw [e1]
 exact ⟨rfl, RBoth.same e2 hS hD hd (hX1w.ext hX9)⟩
 refine C.skip (At.blockNormal (At.thenCode (C.region (W.move rfl rfl ?_))))
 refine W.addI rfl rfl (by omega) rfl ?_
 refine W.assign rfl rfl (W.nil ?_)
 refine At.thenRound (i + 1) (sc rfl (sc rfl (sc rfl (sc (look_eq rfl (iV (by omega))) (Sub.nil))))) (show (i + 1) ≤ ps.length ∧ Ext w15 _ ∧ (x.inner.take (i + 1)).map (timesV 37) = ps.take (i + 1) from ?_) (show ps.length - (i + 1) < ps.length - i from ?_)
 refine ⟨by omega, hX1.ext hX9, proved_step hlt' hlt hE1 ?_⟩
 rw [← hpx, ← hpp]
 exact Decidable.of_not_not c42
 omega
 have hi' : i = ps.length := by omega
 subst hi'
 have hpr : provedB x.inner ps = true := decide_eq_true (by have h := hE1; rwa [List.take_length, ← hlen, List.take_length] at h)
 have haE : acceptE B x ps = keepE B (1 :: batB x) := by unfold acceptE; rw [if_neg (by omega), if_neg (by rw [hpr]; decide)]
 have hX20w := hX15w.ext hX1
 have hB20 := hB15.ext hX1
 refine C.exit (At.thenExit (At.thenExit (At.blockSelf (At.thenCode (C.seq (C.region ?_))))))
 refine W.loadA rfl (hB20.cells (o := 0)) Tryz.underlying39 rfl (by kernel_rfl) rfl ?_
 rw [List.drop_zero]
 have hb' := (hb.ext hX20w).none
 refine W.call Tryz.call41 rfl (Cod.RBatch_ok x _ vl _ hb'.inner hb'.lets hb'.ok hb'.li hb'.ll hb'.lb) rfl ?_
 rintro v24 w24 ⟨a24, c24, rfl, hN24, hX24⟩
 have hX24w := hX20w.ext hX24
 refine W.move rfl rfl (W.extract rfl rfl rfl (W.extract rfl rfl rfl (W.assign rfl rfl (W.assign rfl rfl (W.nil (At.thenCode (C.seq (C.region (W.move rfl rfl ?_)))))))))
 refine W.litB [1] E8 Tryz.underlying22 rfl rfl rfl rfl rfl ?_
 intro g28 w28 hg28 hX28 ho28 _
 refine W.move rfl rfl ?_
 refine W.appendB (ys := batB x) E8 Tryz.underlying22 rfl rfl ho28 (hN24.1.ext hX28) (by simp; omega) hX28.size rfl ?_
 intro v30 w30 ho30 hg30 _
 have ho30 : Ow w30 w24.heap.size 5 v30 (1 :: batB x) := ho30
 obtain ⟨a30, c30, rfl, hS30, hq30⟩ := ownsRow_form ho30
 have hX30 : Ext w24 w30 := hX28.news (Chg.of_grown hg30) fun k hk => Or.inr ((World.ownsRow.lt ho28 k hk.symm).1)
 have hX30w := hX24w.ext hX30
 have hs30 := hX30.size
 have hs24 := hX24w.size
 have hs20 := hX20w.size
 refine W.call Tryz.call42 rfl (Mbx.rkeep_ok F Fd g dg rv B a30 c30 (1 :: batB x) _ (hS.ext hX30w) (hD.ext hX30w) hd hS30 (fun ad e _ hk => by
   have := hq30 ad e
   rcases hk with hk | hk
   have := hS.lt g hS.own; omega
   have := hD.lt _ hk; omega) (by show (batB x).length + 1 ≤ _; omega) hDl) rfl ?_
 rintro v31 w31 ⟨rfl, hK31⟩
 refine W.assign rfl rfl (W.nil (At.thenCode (C.seq (C.seq (C.region (W.move rfl rfl (W.neqI rfl rfl rfl (W.nil (At.thenCode ?_)))))))))
 refine C.condD rfl (fun c54 => ?_) (fun c54 => ?_)
 have hk0 : ¬ keepE B (1 :: batB x) = 0 := by omega
 refine C.seq (C.region (W.move rfl rfl (W.assign rfl rfl (W.nil (At.thenCode (C.ret (At.thenRet ?_)))))))
 refine At.ret1 Tryz.results13 rfl ?_
 have e2 : acceptB B x ps = keepB B (1 :: batB x) := by unfold acceptB; rw [if_neg (by rintro (h | h); exact h hm0; rw [hpr] at h; cases h), if_neg hk0]
 rw [haE]
 exact ⟨rfl, RBoth.kept e2 hX30w (by rw [keepB_s]; exact hS) hd hK31⟩
 have hk0 : keepE B (1 :: batB x) = 0 := by omega
 have hs31 := hK31.chg.size
 have hN31 : Bs w31 a24 c24 (batB x) := Sl.chg (hN24.1.ext hX30) hK31.chg (fun ad e hne hk => by
   have := hN24.2 ad e (by rintro h; exact hne (by rw [h]; rfl))
   rcases hk with hk | hk
   have := hS.lt g hS.own; omega
   have := hD.lt _ hk; omega)
 obtain ⟨Fd', hD31, hF31, hd31⟩ := hK31.sets (fun k hk => Nat.lt_of_lt_of_le (hS.lt k hk) hX30w.size) hd
 have hS31 := hK31.st
 rw [keepB_s] at hS31
 have hC31 : Chg (fun k => F k ∨ Fd k) w w31 := (hX30w.mono fun _ c => c.elim).trans (hK31.chg.mono fun k hk => hk.imp (fun e => by rw [e]; exact hS.own) id)
 obtain ⟨rx1, rx2⟩ := bat_read x m2 hb.ok
 obtain ⟨hb1, hb2, hb3⟩ := batE_small m2
 refine C.skip (At.thenCode (C.seq (C.region (W.move rfl rfl ?_))))
 refine W.call Tryz.call43 rfl (Cod.RReadBatch_ok a24 c24 (batB x) _ hN31 (by omega)) rfl ?_
 rintro v58 w58 ⟨wi, wl, rfl, hI58, hL58, hX58⟩
 rw [rx1, rx2]
 rw [rx2] at hI58 hL58
 have hBM : BatM (fun k => k < w31.heap.size) w58 x wi wl := ⟨hI58, hL58, hb.ok, by omega, by omega, fun p hp => by have := hb3 p hp; omega⟩
 have hS58 := hS31.ext hX58
 have hs58 := hX58.size
 refine W.move rfl rfl (W.extract rfl rfl rfl (W.extract rfl rfl rfl ?_))
 refine W.alloc (z := .agg #[.int .i64 0, .int .i64 0, .slice none 0 0, .slice none 0 0]) [.int .i64 0, .int .i64 0, .slice none 0 0, .slice none 0 0] (by kernel_rfl) rfl rfl ?_
 intro g11 w11 hg11 hX11 hB11
 refine W.storeA (batC x wi wl) rfl rfl hB11 rfl (by kernel_rfl) (batC_one hBM) ?_
 intro w6 hC6 hB6
 have hX6 : Ext w58 w6 := hX11.news hC6 fun k hk => Or.inr (by omega)
 have hX6w := hX58.ext hX6
 have hS6 := hS58.ext hX6
 have hBM6 := hBM.ext hX6
 have hs6' := hX6.size
 obtain ⟨aK, cK, h1K, hOK, hownK, _⟩ := hS6.form
 refine W.assign rfl rfl (W.nil (At.thenCode (C.seq ?_)))
 refine C.regionAnyB (fun k b => k = 7 ∧ (Value.slice aK B.s.l.length cK).ownBlock = some b) 8 (E_ (.pointer (some ⟨g, 0, none⟩)) :: E_ (.pointer (some ⟨g, 0, none⟩)) :: E_ (.pointer (some ⟨g, 0, none⟩)) :: E_ (.pointer (some ⟨g, 1, none⟩)) :: E_ (.slice aK B.s.l.length cK) :: E_ (.agg (batC x wi wl).toArray) :: (fun v w => LitP w6 4 (batC x wi wl) v w) :: (fun v w => OwE (fun k => k = g ∨ (k < w31.heap.size ∧ ¬ F k)) w 0 39 4 RBat v (B.s.l ++ [x]) ∧ (v.ownBlock = (Value.slice aK B.s.l.length cK).ownBlock ∨ ∃ q, v.ownBlock = some q ∧ w6.heap.size ≤ q)) :: []) [(0, .pointer (some ⟨g, 0, none⟩)), (11, .pointer (some ⟨g11, 0, none⟩))] [] (sc rfl (sc rfl (Sub.nil))) (Sub.nil) (sc rfl (sc rfl (Sub.nil))) (by kernel_rfl) rfl rfl rfl (sN (sN (sN (sN (sN (sN (sM (fun _ _ _ h g => by obtain ⟨g4, e1, e2, e3⟩ := h; exact ⟨g4, e1, e2.chg g (fun ad ea hn hk => by obtain ⟨_, _, _, _, hk⟩ := hk; obtain rfl := Option.some.inj ea; have := hS6.lt _ (hownK _ hk).1; simp at this; omega), e3⟩) (sM (fun _ _ _ h g => ⟨OwE.ext rBat h.1 (FamPost.ext g (fun k q h1 h2 h3 => h1 h3.1)), h.2⟩) (trivial))))))))) ?_ ?_
 refine And.intro ?_ ?_
 intro L_ wr hX_ hs_ hf_ hd_
 exact W.s1 (hs_ 0 _ rfl) (W.move rfl rfl (W.eF rfl))
 refine And.intro ?_ ?_
 intro L_ wr hX_ hs_ hf_ hd_
 exact W.s1 (hs_ 0 _ rfl) (W.move rfl rfl (W.eF rfl))
 refine And.intro ?_ ?_
 intro L_ wr hX_ hs_ hf_ hd_
 obtain ⟨_, e1, rfl⟩ := hd_ 1 rfl
 exact W.s1 (e1 _ rfl) (W.nilCheck rfl rfl (W.eF rfl))
 refine And.intro ?_ ?_
 intro L_ wr hX_ hs_ hf_ hd_
 obtain ⟨_, e2, rfl⟩ := hd_ 2 rfl
 exact W.s1 (e2 _ rfl) (W.fieldB (off := 1) (size := 1) (t := 72) (Fld.of (by kernel_rfl)) rfl rfl rfl (W.eF rfl))
 refine And.intro ?_ ?_
 intro L_ wr hX_ hs_ hf_ hd_
 obtain ⟨_, e3, rfl⟩ := hd_ 3 rfl
 refine W.s1 (e3 _ rfl) ?_
 refine W.loadB (v := .slice aK B.s.l.length cK) rfl Tryz.underlying72 rfl (h1K.chg hX_ (by rintro ⟨_, _, _, _, hk⟩; exact (hownK _ hk).2 rfl)) rfl rfl ?_
 exact W.eF rfl
 refine And.intro ?_ ?_
 intro L_ wr hX_ hs_ hf_ hd_
 refine W.s1 (hs_ 11 _ rfl) ?_
 refine W.loadA rfl ((hB6.chg hX_ (by rintro ⟨_, _, _, _, hk⟩; have := hS31.lt _ (hownK _ hk).1; omega)).cells (o := 0)) Tryz.underlying39 rfl (by kernel_rfl) rfl ?_
 rw [List.drop_zero]
 exact W.eF rfl
 refine And.intro ?_ ?_
 intro L_ wr hX_ hs_ hf_ hd_
 obtain ⟨_, e5, rfl⟩ := hd_ 5 rfl
 refine W.s1 (e5 _ rfl) ?_
 refine W.litS (batC x wi wl) EBatR Tryz.underlying72 rfl rfl (by decide) rfl ?_
 intro g37 w37 hg37 hX37 _ hs37
 refine W.nil ?_
 exact At.stepF (Fam.ofExt hX37) ⟨g37, rfl, hs37, by have := Chg.size hX_; omega⟩
 refine And.intro ?_ ?_
 intro L_ wr hX_ hs_ hf_ hd_
 obtain ⟨_, e4, rfl⟩ := hd_ 4 rfl
 obtain ⟨v6, e6, r6⟩ := hd_ 6 rfl
 obtain ⟨g6, rfl, hs6, hg6⟩ := r6
 refine W.s2 (e4 _ rfl) (e6 _ rfl) ?_
 have hXe : Ext w6 wr := FamPre.ext hX_ (fun k q h1 h2 h3 => h1 h3.1)
 have hse := hXe.size
 have hBM8 := hBM6.ext hXe
 have hgw := hS31.lt g hS.own
 refine Law23.W.appendE1 (y0 := x) (A := fun k => k = g ∨ (k < w31.heap.size ∧ ¬ F k)) (base := 0) rBat EBatR Tryz.underlying72 rfl rfl (OwE.new rBat (OwE.ext rBat hOK hXe) fun k hk _ => .inl (hk.elim .inr fun h => .inl h.2)) hs6 ⟨wi, wl, rfl, RdOk.new rNums hBM8.inner (fun k hk _ => by
   rcases hk with (hk | hk) | hk
   omega
   exact hk.1
   exact hS31.lt _ (hownK _ hk).1), RdOk.new (rSl 33 rLet) hBM8.lets (fun k hk _ => by
   rcases hk with (hk | hk) | hk
   omega
   exact hk.1
   exact hS31.lt _ (hownK _ hk).1), hb.ok⟩ (by omega) (by omega) (Nat.zero_le _) rfl ?_
 intro v38 w38 hO38 hg38 hl38
 have hC38 : Chg (fun q => (Value.slice aK B.s.l.length cK).ownBlock = some q) wr w38 := (Chg.of_grown hg38).mono fun q hq => hq.symm
 refine W.nil ?_
 exact At.stepF (Fam.of 7 (hC38.mono fun k hk => ⟨rfl, hk⟩)) ⟨hO38, hl38.imp id fun ⟨q, h1, h2⟩ => ⟨q, h1, by have := Chg.size hX_; omega⟩⟩
 exact trivial
 intro L_ wr hX16 hs_ hv_
 obtain ⟨_, e0, rfl⟩ := hv_ 0 (by decide)
 obtain ⟨v7, e7, r7⟩ := hv_ 7 (by decide)
 refine W.weaken (l' := [(61, _), (68, _), (0, _), (11, _)]) (sc (e0 _ rfl) (sc (e7 _ rfl) (sc (hs_ _ _ rfl) (sc (hs_ _ _ rfl) (Sub.nil))))) ?_
 refine W.nilCheck rfl rfl (W.fieldB (off := 1) (size := 1) (t := 72) (Fld.of (by kernel_rfl)) rfl rfl rfl ?_)
 have hC8 : Chg (fun q => (Value.slice aK B.s.l.length cK).ownBlock = some q) w6 wr := Chg.mono hX16 fun b ⟨k, h1, h2⟩ => h2
 have hs8 := hC8.size
 have hBr := h1K.chg hC8 (fun hk => (hownK _ hk).2 rfl)
 obtain ⟨hO7, hl7⟩ := r7
 have hlt7 := fun q hq => OwE.lt hO7 q hq
 have hv7 : v7.oneCell' = true := by obtain ⟨cs, ho, _⟩ := hO7; obtain ⟨a, c, rfl, _⟩ := ownsRow_form ho; rfl
 refine W.store1 rfl rfl hv7 hBr (by simp) (by kernel_rfl) ?_
 intro w40 hC40 hB40
 have hs40 := hC40.size
 have hne7 : ∀ k, v7.ownBlock = some k → ¬ k = g := fun k hk => by
   have hgw := hS31.lt g hS.own
   rcases hl7 with h | ⟨q, h, h'⟩
   rw [h] at hk; exact (hownK k hk).2
   rw [h] at hk; obtain rfl := Option.some.inj hk
   omega
 have hRS : RSt w40 (Grown F w31 w40) g dg (takeS B.s x) (keepB B (1 :: batB x)).owed := by
   obtain ⟨cs, ho, he⟩ := hO7
   refine ⟨⟨v7, hB40, ⟨cs, ownsRow_chg ho hC40 hne7, fun i hi => ?_⟩, fun k hk => ⟨?_, hne7 k hk⟩⟩, .inl hS.own, fun k hk => ?_, ⟨fun y hy => ?_, hS31.ok.2.1, hS31.ok.2.2⟩⟩
   refine rBat.new (rBat.chg (he i hi) (hC40.mono fun k hk => .inl (.inl hk))) fun k hk hkl => ?_
   rcases hk with (hk | hk) | hk
   refine .inl (.inr ⟨?_, fun hf => hk (.inl hf)⟩)
   rcases Nat.lt_or_ge k w31.heap.size with h | h
   exact h
   exact absurd (.inr ⟨h, by omega⟩) hk
   exact .inl (.inl hk)
   exact .inr hk
   rcases hl7 with h | ⟨q, h, h'⟩
   rw [h] at hk; exact .inl (hownK k hk).1
   have hk2 := (hlt7 k hk).2
   rw [h] at hk; obtain rfl := Option.some.inj hk
   exact .inr ⟨by omega, by omega⟩
   rcases hk with hk | hk
   have := hS31.lt k hk; omega
   exact hk.2
   rcases List.mem_append.1 hy with hy | hy
   exact hS.ok.1 y hy
   obtain rfl := List.mem_singleton.1 hy; exact ⟨hb.ok, m2⟩
 have hCw : Chg F w31 w40 := ((hX6w.mono fun _ c => c.elim).trans (hC8.mono fun k hk => (hownK k hk).1)).trans (hC40.mono fun k hk => by subst hk; exact hS.own)
 refine W.nil (At.thenCode (C.seq (C.region (W.assign rfl rfl (W.nil (At.thenCode (C.ret ?_)))))))
 refine At.ret1 Tryz.results13 rfl ?_
 have e2 : acceptB B x ps = ⟨(keepB B (1 :: batB x)).D, takeS B.s x, (keepB B (1 :: batB x)).owed⟩ := by unfold acceptB; rw [if_neg (by rintro (h | h); exact h hm0; rw [hpr] at h; cases h), if_pos hk0]
 rw [haE, hk0, e2]
 refine ⟨rfl, ⟨Grown F w31 w40, Fd', hRS, hD31.chg hCw fun k hk hf => hd31 k hf hk, fun k hk => hk.imp id fun h => by omega, fun k hk => (hF31 k hk).imp id fun h => by omega, fun k hk hk' => ?_⟩, hC31.trans (hCw.mono fun k hk => .inl hk)⟩
 rcases hk with h | h
 exact hd31 k h hk'
 have := hD31.lt k hk'; omega
theorem fetchH_append (hs hs' : List Hd) (name : List UInt8) (a c : Int) : fetchH (hs ++ hs') name a c = fetchH hs name a c ++ fetchH hs' name a c := by
 unfold fetchH; rw [List.filter_append, List.map_append]
theorem fetchL_step {l : List BatD} {i : Nat} {x : BatD} (hi : i < l.length) (hx : x = l[i]'hi) (name : List UInt8) (a c : Int) : fetchL (l.take (i + 1)) name a c = fetchL (l.take i) name a c ++ fetchH (heldX x x.lets.length name) name a c := by
 show fetchH (heldL (l.take (i + 1)) name) name a c = fetchH (heldL (l.take i) name) name a c ++ _
 rw [List.take_succ_eq_append_getElem hi, ← hx, heldL_take, fetchH_append]
theorem fetchH_out {x : BatD} {a c : Int} (h : ¬ (a ≤ x.round ∧ x.round ≤ c)) (n : Nat) (name : List UInt8) : fetchH (heldX x n name) name a c = [] := by
 unfold fetchH
 rw [List.filter_eq_nil_iff.2 fun y hy => by
   rw [heldX_round y hy]
   simpa using h]
 rfl
theorem fetchX_step {x : BatD} {a c : Int} (h : a ≤ x.round ∧ x.round ≤ c) {k : Nat} (hk : k < x.lets.length) {p : Let} (hp : p = x.lets[k]'hk) (name : List UInt8) : fetchH (heldX x (k + 1) name) name a c = fetchH (heldX x k name) name a c ++ if p.1 = name then [(name, p.2)] else [] := by
 rw [heldX_step hk, fetchH_append, ← hp]
 congr 1
 by_cases e : p.1 = name
 rw [if_pos e, if_pos e]; simp [fetchH, h.1, h.2]
 rw [if_neg e, if_neg e]; rfl
theorem fetchX_len (x : BatD) (n : Nat) (name : List UInt8) (a c : Int) : (fetchH (heldX x n name) name a c).length ≤ x.lets.length := Nat.le_trans (fetchH_len _ _ _ _) (heldX_len _ _ _)
theorem RFetch_ok (F : Nat → Prop) (g dg : Nat) (s : Bag) (o : Option Nat) (name : List UInt8) (a c : Int) (w : World) (hS : RSt w F g dg s o) (hnl : name.length = 32) (hsl : s.l.length ≤ 1000000000) :
   Ct Tryz.prog 53 #[.pointer (some ⟨g, 0, none⟩), keyV name, .int .i64 a, .int .i64 c] w (fun v w' => ∃ ao co, v = .slice ao (fetchL s.l name a c).length co ∧ Els (fun k => k < w.heap.size) w' 33 RLet ao co (fetchL s.l name a c) ∧ Ext w w') := by
 obtain ⟨aK, cK, h1, _, _, hE⟩ := hS.form
 refine Ct.enter [(0, .pointer (some ⟨g, 0, none⟩)), (1, keyV name), (2, .int .i64 a), (3, .int .i64 c)] Tryz.func53 rfl rfl rfl rfl ?_
 refine C.seq (C.region ?_)
 refine W.box (name.map byteV) rfl rfl rfl ?_
 intro g5 w5 hg5 hX5 hB5
 have h15 := h1.ext hX5
 have hE5 := hE.ext rBat hX5
 have hs5 := hX5.size
 refine W.assign rfl rfl (W.nil (At.thenCode (C.seq (C.region (W.assign rfl rfl (W.nil (At.thenCode (C.seq (C.seq (C.region (W.assign rfl rfl ?_)))))))))))
 refine W.nil (At.thenCode (C.block ?_))
 refine C.loop (X := Nat × Value) (fun x_ => [(0, .pointer (some ⟨g, 0, none⟩)), (2, .int .i64 a), (3, .int .i64 c), (5, .pointer (some ⟨g5, 0, none⟩)), (9, x_.2), (10, .int .i64 (x_.1 : Int))]) (fun x_ wl => x_.1 ≤ s.l.length ∧ Ext w5 wl ∧ OwE (fun q_ => q_ < w.heap.size) wl w5.heap.size 58 33 RLet x_.2 (fetchL (s.l.take x_.1) name a c)) (fun x_ => s.l.length - x_.1) (0, Value.slice none 0 0) (sc rfl (sc rfl (sc rfl (sc rfl (sc rfl (sc rfl (Sub.nil))))))) ?start1 ?_
 case start1 =>
   show (0) ≤ s.l.length ∧ Ext w5 _ ∧ OwE (fun q_ => q_ < w.heap.size) _ w5.heap.size 58 33 RLet (Value.slice none 0 0) (fetchL (s.l.take (0)) name a c)
   exact ⟨by omega, Ext.refl _, OwE.nil _ _ _ _ _ _⟩
 rintro ⟨i, vo⟩ wl hI_
 replace hI_ : i ≤ s.l.length ∧ Ext w5 wl ∧ OwE (fun q_ => q_ < w.heap.size) wl w5.heap.size 58 33 RLet vo (fetchL (s.l.take i) name a c) := hI_
 obtain ⟨hi, hXl, hOl⟩ := hI_
 refine C.weaken (l' := [(0, .pointer (some ⟨g, 0, none⟩)), (2, .int .i64 a), (3, .int .i64 c), (5, .pointer (some ⟨g5, 0, none⟩)), (9, vo), (10, .int .i64 (i : Int))]) (sc rfl (sc rfl (sc rfl (sc rfl (sc rfl (sc rfl (Sub.nil))))))) ?_
 refine C.seq (C.seq (C.region (W.move rfl rfl (W.move rfl rfl (W.nilCheck rfl rfl (W.fieldB (off := 1) (size := 1) (t := 72) (Fld.of (by kernel_rfl)) rfl rfl rfl ?_))))))
 refine W.loadB (v := .slice aK s.l.length cK) rfl Tryz.underlying72 rfl (h15.ext hXl) rfl rfl ?_
 refine W.lenS rfl Tryz.underlying72 rfl (W.lssI rfl rfl rfl (W.nil (At.thenCode ?_)))
 refine C.condD rfl (fun c19 => ?_) (fun c19 => ?_)
 have hlt : i < s.l.length := by omega
 obtain ⟨x, hx⟩ : ∃ x, x = s.l[i] := ⟨_, rfl⟩
 have hxm : x ∈ s.l := hx ▸ List.getElem_mem hlt
 obtain ⟨hx1, hx2, hx3⟩ := batE_small (hS.ok.1 x hxm).2
 have htk := fetchL_step hlt hx name a c
 have hfl : (fetchL (s.l.take i) name a c).length ≤ 1000000000000 := by
   have e1 := fetchH_len (heldL (s.l.take i) name) name a c
   have e2 := heldL_len (l := s.l.take i) (m := 1000) (fun y hy => (batE_small (hS.ok.1 y (List.mem_of_mem_take hy)).2).2.1) name
   rw [List.length_take] at e2
   have e3 : (fetchL (s.l.take i) name a c).length ≤ (heldL (s.l.take i) name).length := e1
   omega
 refine C.skip (At.thenCode (C.seq (C.block (C.seq (C.region (W.assign rfl rfl (W.nil (At.thenCode (C.block ?_)))))))))
 refine C.loop (X := Nat × Value) (fun x_ => [(0, .pointer (some ⟨g, 0, none⟩)), (2, .int .i64 a), (3, .int .i64 c), (5, .pointer (some ⟨g5, 0, none⟩)), (9, x_.2), (10, .int .i64 (i : Int)), (11, .int .i64 (x_.1 : Int))]) (fun x_ w2 => x_.1 ≤ x.lets.length ∧ Ext w5 w2 ∧ OwE (fun q_ => q_ < w.heap.size) w2 w5.heap.size 58 33 RLet x_.2 (fetchL (s.l.take i) name a c ++ fetchH (heldX x x_.1 name) name a c)) (fun x_ => x.lets.length - x_.1) (0, vo) (sc rfl (sc rfl (sc rfl (sc rfl (sc rfl (sc rfl (sc rfl (Sub.nil)))))))) ?start2 ?_
 case start2 =>
   show (0) ≤ x.lets.length ∧ Ext w5 _ ∧ OwE (fun q_ => q_ < w.heap.size) _ w5.heap.size 58 33 RLet (vo) (fetchL (s.l.take i) name a c ++ fetchH (heldX x (0) name) name a c)
   exact ⟨by omega, hXl, by rw [heldX_zero]; show OwE _ _ _ _ _ _ _ (_ ++ []); rw [List.append_nil]; exact hOl⟩
 rintro ⟨k, vi⟩ w2 hI_
 replace hI_ : k ≤ x.lets.length ∧ Ext w5 w2 ∧ OwE (fun q_ => q_ < w.heap.size) w2 w5.heap.size 58 33 RLet vi (fetchL (s.l.take i) name a c ++ fetchH (heldX x k name) name a c) := hI_
 obtain ⟨hk, hX2, hO2⟩ := hI_
 refine C.weaken (l' := [(0, .pointer (some ⟨g, 0, none⟩)), (2, .int .i64 a), (3, .int .i64 c), (5, .pointer (some ⟨g5, 0, none⟩)), (9, vi), (10, .int .i64 (i : Int)), (11, .int .i64 (k : Int))]) (sc rfl (sc rfl (sc rfl (sc rfl (sc rfl (sc rfl (sc rfl (Sub.nil)))))))) ?_
 have hfx := fetchX_len x k name a c
 refine C.seq (C.seq (C.region (W.move rfl rfl (W.nilCheck rfl rfl (W.fieldB (off := 1) (size := 1) (t := 72) (Fld.of (by kernel_rfl)) rfl rfl rfl ?_)))))
 refine W.loadB (v := .slice aK s.l.length cK) rfl Tryz.underlying72 rfl (h15.ext hX2) rfl rfl ?_
 refine W.move rfl rfl ?_
 refine W.indexE EBatR Tryz.underlying72 rfl (hE5.ext rBat hX2) rfl hlt rfl ?_
 intro ad27 cs27 hc27 hR27 hl27
 rw [← hx] at hR27
 obtain ⟨vi27, vl27, rfl, _⟩ := hR27
 refine W.fieldAddr (off := 0) (size := 1) (t := 3) (Fld.of (by kernel_rfl)) rfl rfl rfl ?_
 refine W.load (v := .int .i64 x.round) rfl Tryz.underlying3 rfl (hc27 0 _ rfl) rfl ?_
 refine W.move rfl rfl (W.geqI rfl rfl rfl (W.move rfl rfl ?_))
 refine W.splitD (fun g32 => ?_) (fun g32 => ?_)
 refine W.wants rfl rfl rfl rfl (W.move rfl rfl (W.wants rfl rfl rfl rfl (W.nilCheck rfl rfl (W.wants rfl rfl rfl rfl (W.fieldB (off := 1) (size := 1) (t := 72) (Fld.of (by kernel_rfl)) rfl rfl rfl (W.wants rfl rfl rfl rfl ?_))))))
 refine W.loadB (v := .slice aK s.l.length cK) rfl Tryz.underlying72 rfl (h15.ext hX2) rfl rfl ?_
 refine W.wants rfl rfl rfl rfl (W.move rfl rfl (W.wants rfl rfl rfl rfl ?_))
 refine W.indexE EBatR Tryz.underlying72 rfl (hE5.ext rBat hX2) rfl hlt rfl ?_
 intro ad38 cs38 hc38 hR38 hl38
 rw [← hx] at hR38
 obtain ⟨vi38, vl38, rfl, _⟩ := hR38
 refine W.wants rfl rfl rfl rfl ?_
 refine W.fieldAddr (off := 0) (size := 1) (t := 3) (Fld.of (by kernel_rfl)) rfl rfl rfl ?_
 refine W.wants rfl rfl rfl rfl ?_
 refine W.load (v := .int .i64 x.round) rfl Tryz.underlying3 rfl (hc38 0 _ rfl) rfl ?_
 refine W.wants rfl rfl rfl rfl (W.move rfl rfl (W.wants rfl rfl rfl rfl (W.leqI rfl rfl rfl (W.pickT rfl rfl rfl (W.move rfl rfl ?_)))))
 refine W.splitD (fun g44 => ?_) (fun g44 => ?_)
 refine W.wants rfl rfl rfl rfl (W.move rfl rfl (W.wants rfl rfl rfl rfl (W.move rfl rfl (W.wants rfl rfl rfl rfl (W.nilCheck rfl rfl (W.wants rfl rfl rfl rfl (W.fieldB (off := 1) (size := 1) (t := 72) (Fld.of (by kernel_rfl)) rfl rfl rfl (W.wants rfl rfl rfl rfl ?_))))))))
 refine W.loadB (v := .slice aK s.l.length cK) rfl Tryz.underlying72 rfl (h15.ext hX2) rfl rfl ?_
 refine W.wants rfl rfl rfl rfl (W.move rfl rfl (W.wants rfl rfl rfl rfl ?_))
 refine W.indexE EBatR Tryz.underlying72 rfl (hE5.ext rBat hX2) rfl hlt rfl ?_
 intro ad51 cs51 hc51 hR51 hl51
 rw [← hx] at hR51
 obtain ⟨vi51, vl51, rfl, _, hL51, _⟩ := hR51
 obtain ⟨aL, cL, rfl, hEL⟩ := hL51.form
 refine W.wants rfl rfl rfl rfl ?_
 refine W.fieldAddr (off := 3) (size := 1) (t := 37) (Fld.of (by kernel_rfl)) rfl rfl rfl ?_
 refine W.wants rfl rfl rfl rfl ?_
 refine W.load (v := .slice aL x.lets.length cL) rfl Tryz.underlying37 rfl (hc51 3 _ rfl) rfl ?_
 refine W.wants rfl rfl rfl rfl (W.lenS rfl Tryz.underlying37 rfl (W.wants rfl rfl rfl rfl (W.lssI rfl rfl rfl (W.pickT rfl rfl rfl (W.nil (At.thenCode ?_))))))
 refine C.condD rfl (fun c56 => ?_) (fun c56 => ?_)
 have hkl : k < x.lets.length := by omega
 have hyes : a ≤ x.round ∧ x.round ≤ c := by omega
 obtain ⟨p, hp⟩ : ∃ p, p = x.lets[k] := ⟨_, rfl⟩
 have hstep := fetchX_step hyes hkl hp name
 have hpb : p.2.length ≤ 1048576 := hx3 p (hp ▸ List.getElem_mem hkl)
 refine C.skip (At.thenCode (C.seq (C.block (C.seq (C.region (W.move rfl rfl (W.nilCheck rfl rfl (W.fieldB (off := 1) (size := 1) (t := 72) (Fld.of (by kernel_rfl)) rfl rfl rfl ?_))))))))
 refine W.loadB (v := .slice aK s.l.length cK) rfl Tryz.underlying72 rfl (h15.ext hX2) rfl rfl ?_
 refine W.move rfl rfl ?_
 refine W.indexE EBatR Tryz.underlying72 rfl (hE5.ext rBat hX2) rfl hlt rfl ?_
 intro ad64 cs64 hc64 hR64 hl64
 rw [← hx] at hR64
 obtain ⟨vi64, vl64, rfl, _, hL64, _⟩ := hR64
 obtain ⟨aM, cM, rfl, hEM⟩ := hL64.form
 refine W.fieldAddr (off := 3) (size := 1) (t := 37) (Fld.of (by kernel_rfl)) rfl rfl rfl ?_
 refine W.load (v := .slice aM x.lets.length cM) rfl Tryz.underlying37 rfl (hc64 3 _ rfl) rfl ?_
 refine W.move rfl rfl ?_
 refine W.indexE ELet Tryz.underlying37 rfl hEM rfl hkl rfl ?_
 rintro ad68 cs68 hc68 ⟨v68, rfl, hR68, hk68⟩ hl68
 rw [← hp] at hc68 hR68 hk68 hl68
 obtain ⟨ab, cb, rfl, hbs, _⟩ := RByt.form hR68
 refine W.loadA rfl hc68 Tryz.underlying58 rfl (by rw [hl68]; kernel_rfl) rfl ?_
 refine W.alloc (z := .agg LZ.toArray) LZ (by kernel_rfl) rfl rfl ?_
 intro g12 w11 hg12 hX11 hB11
 refine W.storeA (p.1.map byteV ++ [Value.slice ab p.2.length cb]) rfl rfl hB11 (by rw [hl68]; rfl) (by rw [hl68]; kernel_rfl) (fun u hu => by
   rcases List.mem_append.1 hu with hu | hu
   exact bytes_oneCell _ u hu
   obtain rfl := List.mem_singleton.1 hu; rfl) ?_
 intro w12 hC12 hB12
 have hX12 : Ext w2 w12 := hX11.news hC12 fun q hq => Or.inr (by omega)
 have hs12 := hX12.size
 have hO12 := OwE.ext rLet hO2 hX12
 have hX12w := hX2.ext hX12
 have hkey : ∀ {ww : World}, Bk ww g12 (p.1.map byteV ++ [Value.slice ab p.2.length cb]) → Cells ww ⟨g12, 0, none⟩ (p.1.map byteV) := fun hb => by
   have := Cells.take (hb.cells (o := 0)) 32
   rwa [List.drop_zero, List.take_append_of_le_length (by simp [hk68]), List.take_of_length_le (by simp [hk68])] at this
 refine W.nil (At.thenCode (C.seq (C.region (W.fieldB (off := 0) (size := 32) (t := 43) (Fld.of (by kernel_rfl)) rfl rfl rfl ?_))))
 refine W.loadA rfl (hkey hB12) Tryz.underlying43 rfl (by rw [List.length_map, hk68]; kernel_rfl) rfl ?_
 refine W.loadA rfl ((hB5.ext hX12w).cells (o := 0)) Tryz.underlying43 rfl (by rw [List.drop_zero, List.length_map, hnl]; kernel_rfl) rfl ?_
 rw [List.drop_zero]
 refine W.eqlKey (n := 32) Tryz.underlying43 Tryz.underlying5 (by kernel_rfl) rfl rfl hk68 hnl (by kernel_rfl) rfl ?_
 refine W.nil (At.thenCode ?_)
 refine C.condD rfl (fun c73 => ?_) (fun c73 => ?_)
 have hpn : p.1 = name := c73
 refine C.regionAny 8 (E_ (vi) :: E_ (.pointer (some ⟨g12, 0, none⟩)) :: E_ (keyV name) :: E_ (.pointer (some ⟨g12, 32, none⟩)) :: E_ (.slice ab p.2.length cb) :: (fun v w => RByt (fun q_ => q_ < w12.heap.size) w [v] p.2) :: (fun v w => ∃ cs : List Value, v = .agg cs.toArray ∧ RLet (fun q_ => q_ < w12.heap.size) w cs (name, p.2) ∧ cs.length = 33) :: (fun v w => ∃ a c, v = .slice a 1 c ∧ Els (fun q_ => q_ < w12.heap.size) w 33 RLet a c [(name, p.2)]) :: []) [(0, .pointer (some ⟨g, 0, none⟩)), (2, .int .i64 a), (3, .int .i64 c), (5, .pointer (some ⟨g5, 0, none⟩)), (9, vi), (10, .int .i64 (i : Int)), (11, .int .i64 (k : Int)), (12, .pointer (some ⟨g12, 0, none⟩))] [] (sc rfl (sc rfl (sc rfl (sc rfl (sc rfl (sc rfl (sc rfl (sc rfl (Sub.nil))))))))) (Sub.nil) (sc rfl (sc rfl (sc rfl (sc rfl (sc rfl (sc rfl (sc rfl (sc rfl (Sub.nil))))))))) (by kernel_rfl) rfl rfl rfl (sN (sN (sN (sN (sN (sM (fun _ _ _ h g => rByt.ext h g) (sM (fun _ _ _ h g => by obtain ⟨cs, e, h1, q⟩ := h; exact ⟨cs, e, rLet.ext h1 g, q⟩) (sM (fun _ _ _ h g => by obtain ⟨a1, c1, e, h1⟩ := h; exact ⟨a1, c1, e, Els.ext rLet h1 g⟩) (trivial))))))))) ?_ ?_
 refine And.intro (mB rfl rfl (fun _ => rfl) rfl) ?_
 refine And.intro ?_ ?_
 intro L_ wq hX_ hs_ hf_ hd_
 exact W.s1 (hs_ 12 _ rfl) (W.fieldB (off := 0) (size := 32) (t := 43) (Fld.of (by kernel_rfl)) rfl rfl rfl (W.e0 rfl))
 refine And.intro ?_ ?_
 intro L_ wq hX_ hs_ hf_ hd_
 obtain ⟨_, e1, rfl⟩ := hd_ 1 rfl
 refine W.s1 (e1 _ rfl) ?_
 refine W.loadA rfl (hkey (hB12.ext hX_)) Tryz.underlying43 rfl (by rw [List.length_map, hk68]; kernel_rfl) rfl ?_
 rw [hpn]
 exact W.e0 rfl
 refine And.intro ?_ ?_
 intro L_ wq hX_ hs_ hf_ hd_
 exact W.s1 (hs_ 12 _ rfl) (W.fieldB (off := 32) (size := 1) (t := 22) (Fld.of (by kernel_rfl)) rfl rfl rfl (W.e0 rfl))
 refine And.intro ?_ ?_
 intro L_ wq hX_ hs_ hf_ hd_
 obtain ⟨_, e3, rfl⟩ := hd_ 3 rfl
 refine W.s1 (e3 _ rfl) ?_
 refine W.loadB (v := .slice ab p.2.length cb) rfl Tryz.underlying22 rfl (hB12.ext hX_) (by rw [List.getElem?_append_right (by simp [hk68]), List.length_map, hk68]; rfl) rfl ?_
 exact W.e0 rfl
 refine And.intro ?_ ?_
 intro L_ wq hX_ hs_ hf_ hd_
 obtain ⟨_, e4, rfl⟩ := hd_ 4 rfl
 refine W.s1 (e4 _ rfl) ?_
 refine W.appendB (ys := p.2) (xs := []) (base := wq.heap.size) E8 Tryz.underlying22 rfl rfl (Ow.nil _ _ _) ((hbs.ext hX12).ext hX_) (by simp; omega) (Nat.le_refl _) rfl ?_
 rw [List.nil_append]
 intro v79 w79 ho79 hg79 _
 have hX79 : Ext wq w79 := (Chg.of_grown hg79).mono fun q hq => by cases hq
 obtain ⟨a79, c79, rfl, hS79, hq79⟩ := ownsRow_form ho79
 exact W.e1 hX79 ⟨a79, c79, rfl, hS79, fun ad e _ hA => by have := hq79 ad e; have := hX_.size; omega⟩
 refine And.intro ?_ ?_
 intro L_ wq hX_ hs_ hf_ hd_
 obtain ⟨_, e2, rfl⟩ := hd_ 2 rfl
 obtain ⟨v5, e5, r5⟩ := hd_ 5 rfl
 obtain ⟨a4, c4, rfl, hb4, hn4⟩ := RByt.form (show RByt (fun q_ => q_ < w12.heap.size) _ [_] p.2 from r5)
 refine W.s2 (e2 _ rfl) (e5 _ rfl) ?_
 refine W.buildS (fs := _) [(0, 32), (32, 1)] (name.map byteV ++ [Value.slice a4 p.2.length c4]) LZ Tryz.underlying58 (by kernel_rfl) (by kernel_rfl) rfl (by rw [fill_cons (us := name.map byteV) (off := 0) rfl (by rw [List.length_map, hnl]; rfl) (by rw [List.length_map, hnl]; decide), LZ_key hnl, fill_cons (us := [Value.slice a4 p.2.length c4]) (off := 32) rfl rfl (by simp; omega), LZ_box hnl]; rfl) rfl ?_
 exact W.e0 ⟨_, rfl, ⟨_, rfl, r5, hnl⟩, by simp [hnl]⟩
 refine And.intro ?_ ?_
 intro L_ wq hX_ hs_ hf_ hd_
 obtain ⟨v6, e6, r6⟩ := hd_ 6 rfl
 obtain ⟨cs5, rfl, hR5, hl5⟩ := r6
 refine W.s1 (e6 _ rfl) ?_
 refine W.litS cs5 ELet Tryz.underlying37 rfl hl5 (by decide) rfl ?_
 intro g81 w81 hg81 hX81 _ hs81
 exact W.e1 hX81 ⟨_, _, rfl, Els.lit hs81 (rLet.ext hR5 hX81) (by have := hX_.size; omega)⟩
 exact trivial
 intro L_ wq hX10 hs_ hv_
 obtain ⟨v0, e0, r0⟩ := hv_ 0 (by decide)
 obtain rfl : (vi : Value) = v0 := Eq.symm r0
 obtain ⟨v7, e7, r7⟩ := hv_ 7 (by decide)
 obtain ⟨a6, c6, rfl, hE6⟩ := r7
 refine W.weaken (l' := [(74, _), (81, _), (0, _), (2, _), (3, _), (5, _), (9, _), (10, _), (11, _), (12, _)]) (sc (e0 _ rfl) (sc (e7 _ rfl) (sc (hs_ _ _ rfl) (sc (hs_ _ _ rfl) (sc (hs_ _ _ rfl) (sc (hs_ _ _ rfl) (sc (hs_ _ _ rfl) (sc (hs_ _ _ rfl) (sc (hs_ _ _ rfl) (sc (hs_ _ _ rfl) (Sub.nil))))))))))) ?_
 have hXq := hX10
 have hsq := hXq.size
 have hvlt := fun q hq => (OwE.lt hO12 q hq)
 have hln : (fetchL (s.l.take i) name a c ++ fetchH (heldX x k name) name a c).length ≤ 1000000001000 := by rw [List.length_append]; omega
 refine W.appendE (A := fun q_ => q_ < w.heap.size) (ys := [(name, p.2)]) rLet ELet Tryz.underlying37 rfl rfl (OwE.ext rLet hO12 hXq) (Els.new rLet hE6 fun q hq _ => by
   rcases hq with hq | hq
   have := hX12w.size; omega
   exact (hvlt q hq).2) (by simp only [List.length_singleton]; omega) (by simp only [List.length_singleton]; omega) (by have := hX12w.size; omega) rfl ?_
 intro v82 w82 ho82 hg82 hv82
 have hX82 : Ext w5 w82 := (hX12w.ext hXq).news (Chg.of_grown hg82) fun q hq => Or.inr (hvlt q hq.symm).1
 refine W.assign rfl rfl (W.nil (At.blockNormal (At.thenCode (C.region (W.move rfl rfl ?_)))))
 refine W.addI rfl rfl (by omega) rfl ?_
 refine W.assign rfl rfl (W.nil ?_)
 refine At.thenRound (k + 1, v82) (sc rfl (sc rfl (sc rfl (sc rfl (sc rfl (sc rfl (sc (look_eq rfl (iV (by omega))) (Sub.nil)))))))) (show (k + 1) ≤ x.lets.length ∧ Ext w5 _ ∧ OwE (fun q_ => q_ < w.heap.size) _ w5.heap.size 58 33 RLet (v82) (fetchL (s.l.take i) name a c ++ fetchH (heldX x (k + 1) name) name a c) from ?_) (show x.lets.length - (k + 1) < x.lets.length - k from ?_)
 refine ⟨by omega, hX82, ?_⟩
 rw [hstep, if_pos hpn, ← List.append_assoc]
 exact ho82
 omega
 refine C.skip (At.blockNormal (At.thenCode (C.region (W.move rfl rfl ?_))))
 refine W.addI rfl rfl (by omega) rfl ?_
 refine W.assign rfl rfl (W.nil ?_)
 refine At.thenRound (k + 1, vi) (sc rfl (sc rfl (sc rfl (sc rfl (sc rfl (sc rfl (sc (look_eq rfl (iV (by omega))) (Sub.nil)))))))) (show (k + 1) ≤ x.lets.length ∧ Ext w5 _ ∧ OwE (fun q_ => q_ < w.heap.size) _ w5.heap.size 58 33 RLet (vi) (fetchL (s.l.take i) name a c ++ fetchH (heldX x (k + 1) name) name a c) from ?_) (show x.lets.length - (k + 1) < x.lets.length - k from ?_)
 refine ⟨by omega, hX12w, ?_⟩
 rw [hstep, if_neg (by simpa using c73), List.append_nil]
 exact hO12
 omega
 refine C.exit (At.thenExit (At.thenExit (At.blockSelf (At.blockNormal (At.thenCode (C.region (W.move rfl rfl ?_)))))))
 refine W.addI rfl rfl (by omega) rfl ?_
 refine W.assign rfl rfl (W.nil ?_)
 have hkk : k = x.lets.length := by omega
 subst hkk
 rw [← htk] at hO2
 refine At.thenRound (i + 1, vi) (sc rfl (sc rfl (sc rfl (sc rfl (sc rfl (sc (look_eq rfl (iV (by omega))) (Sub.nil))))))) (show (i + 1) ≤ s.l.length ∧ Ext w5 _ ∧ OwE (fun q_ => q_ < w.heap.size) _ w5.heap.size 58 33 RLet (vi) (fetchL (s.l.take (i + 1)) name a c) from ?_) (show s.l.length - (i + 1) < s.l.length - i from ?_)
 exact ⟨by omega, hX2, hO2⟩
 omega
 refine W.skips rfl rfl rfl rfl rfl rfl (W.skips rfl rfl rfl rfl rfl rfl (W.skips rfl rfl rfl rfl rfl rfl (W.skips rfl rfl rfl rfl rfl rfl (W.skips rfl rfl rfl rfl rfl rfl (W.skips rfl rfl rfl rfl rfl rfl (W.skips rfl rfl rfl rfl rfl rfl (W.skips rfl rfl rfl rfl rfl rfl (W.skips rfl rfl rfl rfl rfl rfl (W.skips rfl rfl rfl rfl rfl rfl (W.skips rfl rfl rfl rfl rfl rfl (W.pickF rfl rfl rfl ?_)))))))))))
 refine W.nil (At.thenCode ?_)
 refine C.condF rfl ?_
 refine C.exit (At.thenExit (At.thenExit (At.blockSelf (At.blockNormal (At.thenCode (C.region (W.move rfl rfl ?_)))))))
 refine W.addI rfl rfl (by omega) rfl ?_
 refine W.assign rfl rfl (W.nil ?_)
 have hno : ¬ (a ≤ x.round ∧ x.round ≤ c) := by omega
 rw [fetchH_out hno, ← fetchH_out hno x.lets.length name, ← htk] at hO2
 refine At.thenRound (i + 1, vi) (sc rfl (sc rfl (sc rfl (sc rfl (sc rfl (sc (look_eq rfl (iV (by omega))) (Sub.nil))))))) (show (i + 1) ≤ s.l.length ∧ Ext w5 _ ∧ OwE (fun q_ => q_ < w.heap.size) _ w5.heap.size 58 33 RLet (vi) (fetchL (s.l.take (i + 1)) name a c) from ?_) (show s.l.length - (i + 1) < s.l.length - i from ?_)
 exact ⟨by omega, hX2, hO2⟩
 omega
 refine W.skips rfl rfl rfl rfl rfl rfl (W.skips rfl rfl rfl rfl rfl rfl (W.skips rfl rfl rfl rfl rfl rfl (W.skips rfl rfl rfl rfl rfl rfl (W.skips rfl rfl rfl rfl rfl rfl (W.skips rfl rfl rfl rfl rfl rfl (W.skips rfl rfl rfl rfl rfl rfl (W.skips rfl rfl rfl rfl rfl rfl (W.skips rfl rfl rfl rfl rfl rfl (W.skips rfl rfl rfl rfl rfl rfl (W.pickF rfl rfl rfl (W.move rfl rfl ?_)))))))))))
 refine W.skips rfl rfl rfl rfl rfl rfl (W.skips rfl rfl rfl rfl rfl rfl (W.skips rfl rfl rfl rfl rfl rfl (W.skips rfl rfl rfl rfl rfl rfl (W.skips rfl rfl rfl rfl rfl rfl (W.skips rfl rfl rfl rfl rfl rfl (W.skips rfl rfl rfl rfl rfl rfl (W.skips rfl rfl rfl rfl rfl rfl (W.skips rfl rfl rfl rfl rfl rfl (W.skips rfl rfl rfl rfl rfl rfl (W.skips rfl rfl rfl rfl rfl rfl (W.pickF rfl rfl rfl ?_)))))))))))
 refine W.nil (At.thenCode ?_)
 refine C.condF rfl ?_
 refine C.exit (At.thenExit (At.thenExit (At.blockSelf (At.blockNormal (At.thenCode (C.region (W.move rfl rfl ?_)))))))
 refine W.addI rfl rfl (by omega) rfl ?_
 refine W.assign rfl rfl (W.nil ?_)
 have hno : ¬ (a ≤ x.round ∧ x.round ≤ c) := by omega
 rw [fetchH_out hno, ← fetchH_out hno x.lets.length name, ← htk] at hO2
 refine At.thenRound (i + 1, vi) (sc rfl (sc rfl (sc rfl (sc rfl (sc rfl (sc (look_eq rfl (iV (by omega))) (Sub.nil))))))) (show (i + 1) ≤ s.l.length ∧ Ext w5 _ ∧ OwE (fun q_ => q_ < w.heap.size) _ w5.heap.size 58 33 RLet (vi) (fetchL (s.l.take (i + 1)) name a c) from ?_) (show s.l.length - (i + 1) < s.l.length - i from ?_)
 exact ⟨by omega, hX2, hO2⟩
 omega
 obtain rfl : i = s.l.length := by omega
 rw [List.take_length] at hOl
 refine C.exit (At.thenExit (At.thenExit (At.blockSelf (At.thenCode (C.seq (C.region (W.move rfl rfl (W.assign rfl rfl (W.nil (At.thenCode (C.ret ?_)))))))))))
 refine At.ret1 Tryz.results53 rfl ?_
 have hform := OwE.form rLet (OwE.new rLet hOl (B := fun q => q < w.heap.size) fun q hq _ => .inl hq) (fun q hq hql => by have := (OwE.lt hOl q hq).1; omega)
 obtain ⟨ao, co, rfl, hEo, _⟩ := hform
 exact ⟨ao, co, rfl, hEo, hX5.ext hXl⟩
end Go.Proofs.YthiijdbiikljpaaGreat.Mbx
namespace Go.Proofs.YthiijdbiikljpaaGreat.Disk
open Go Go.RowKit Go.Proofs.YthiijdbiikljpaaGreat.KW Go.Proofs.YthiijdbiikljpaaGreat.Words
set_option linter.unusedVariables false
set_option linter.unusedSimpArgs false
set_option maxRecDepth 100000
theorem Crash_ok (F : Nat → Prop) (g : Nat) (rv : Int) (D : Dsk) (keep : Int) (w : World) (hD : Dk w F g rv D) : Ct Tryz.prog 16 #[.pointer (some ⟨g, 0, none⟩), .int .i64 keep] w (fun v w' => Dk w' (Grown F w w') g rv (crashD D keep) ∧ Chg F w w') := by
 obtain ⟨bo, cb, fo, cf, h1, h2, h3, h4, h5⟩ := hD.out
 have hsm := hD.ok.small
 have hsy := hD.ok.syn
 obtain ⟨hk1, hk2⟩ := keepN_le hD.ok keep
 have hok := crashD_ok hD.ok keep
 obtain ⟨K, hK⟩ : ∃ K, K = keepN D keep := ⟨_, rfl⟩
 have hcd : crashD D keep = ⟨D.room, D.bs.take K, K, D.fails⟩ := by rw [hK]; rfl
 rw [hcd] at hok ⊢
 rw [← hK] at hk1 hk2
 refine Ct.enter [(0, .pointer (some ⟨g, 0, none⟩)), (1, .int .i64 keep)] Tryz.func16 rfl rfl rfl rfl ?_
 refine C.seq ?_
 refine C.regionAny 11 (E_ (.pointer (some ⟨g, 0, none⟩)) :: E_ (.pointer (some ⟨g, 0, none⟩)) :: E_ (.pointer (some ⟨g, 1, none⟩)) :: E_ (.slice bo D.bs.length cb) :: E_ (.int .i64 (D.bs.length : Int)) :: E_ (.pointer (some ⟨g, 0, none⟩)) :: E_ (.pointer (some ⟨g, 0, none⟩)) :: E_ (.pointer (some ⟨g, 2, none⟩)) :: E_ (.int .i64 (D.syn : Int)) :: E_ (.int .i64 ((D.bs.length : Int) - (D.syn : Int))) :: E_ (.int .i64 ((D.bs.length : Int) - (D.syn : Int))) :: []) [(0, .pointer (some ⟨g, 0, none⟩)), (1, .int .i64 keep)] [] (sc rfl (sc rfl (Sub.nil))) (Sub.nil) (sc rfl (sc rfl (Sub.nil))) (by kernel_rfl) rfl rfl rfl (sN (sN (sN (sN (sN (sN (sN (sN (sN (sN (sN (trivial)))))))))))) ?_ ?_
 refine And.intro (mB rfl rfl (fun _ => rfl) rfl) ?_
 refine And.intro ?_ ?_
 intro L_ w1 hX_ hs_ hf_ hd_
 obtain ⟨_, e0, rfl⟩ := hd_ 0 rfl
 exact W.s1 (e0 _ rfl) (W.nilCheck rfl rfl (W.e0 rfl))
 refine And.intro ?_ ?_
 intro L_ w1 hX_ hs_ hf_ hd_
 obtain ⟨_, e1, rfl⟩ := hd_ 1 rfl
 exact W.s1 (e1 _ rfl) (W.fieldB (off := 1) (size := 1) (t := 22) (Fld.of (by kernel_rfl)) rfl rfl rfl (W.e0 rfl))
 refine And.intro ?_ ?_
 intro L_ w1 hX_ hs_ hf_ hd_
 obtain ⟨_, e2, rfl⟩ := hd_ 2 rfl
 refine W.s1 (e2 _ rfl) ?_
 refine W.loadB rfl Tryz.underlying22 rfl (Bk.ext (by assumption) hX_) rfl rfl ?_
 exact W.e0 rfl
 refine And.intro ?_ ?_
 intro L_ w1 hX_ hs_ hf_ hd_
 obtain ⟨_, e3, rfl⟩ := hd_ 3 rfl
 exact W.s1 (e3 _ rfl) (W.lenS rfl Tryz.underlying22 rfl (W.e0 rfl))
 refine And.intro (mB rfl rfl (fun _ => rfl) rfl) ?_
 refine And.intro ?_ ?_
 intro L_ w1 hX_ hs_ hf_ hd_
 obtain ⟨_, e5, rfl⟩ := hd_ 5 rfl
 exact W.s1 (e5 _ rfl) (W.nilCheck rfl rfl (W.e0 rfl))
 refine And.intro ?_ ?_
 intro L_ w1 hX_ hs_ hf_ hd_
 obtain ⟨_, e6, rfl⟩ := hd_ 6 rfl
 exact W.s1 (e6 _ rfl) (W.fieldB (off := 2) (size := 1) (t := 3) (Fld.of (by kernel_rfl)) rfl rfl rfl (W.e0 rfl))
 refine And.intro ?_ ?_
 intro L_ w1 hX_ hs_ hf_ hd_
 obtain ⟨_, e7, rfl⟩ := hd_ 7 rfl
 refine W.s1 (e7 _ rfl) ?_
 refine W.loadB rfl Tryz.underlying3 rfl (Bk.ext (by assumption) hX_) rfl rfl ?_
 exact W.e0 rfl
 refine And.intro ?_ ?_
 intro L_ w1 hX_ hs_ hf_ hd_
 obtain ⟨_, e4, rfl⟩ := hd_ 4 rfl
 obtain ⟨_, e8, rfl⟩ := hd_ 8 rfl
 refine W.s2 (e4 _ rfl) (e8 _ rfl) ?_
 refine W.subI rfl rfl (by omega) rfl ?_
 exact W.e0 rfl
 refine And.intro ?_ ?_
 intro L_ w1 hX_ hs_ hf_ hd_
 obtain ⟨_, e9, rfl⟩ := hd_ 9 rfl
 exact W.s1 (e9 _ rfl) (W.assign rfl rfl (W.e0 rfl))
 exact trivial
 intro L_ w1 hX0 hs_ hv_
 obtain ⟨_, e10, rfl⟩ := hv_ 10 (by decide)
 refine W.weaken (l' := [(4, _), (0, _), (1, _)]) (sc (e10 _ rfl) (sc (hs_ _ _ rfl) (sc (hs_ _ _ rfl) (Sub.nil)))) ?_
 refine W.nil (At.thenCode (C.seq ?_))
 refine C.regionAny 17 (E_ (.pointer (some ⟨g, 0, none⟩)) :: E_ (.pointer (some ⟨g, 0, none⟩)) :: E_ (.pointer (some ⟨g, 0, none⟩)) :: E_ (.pointer (some ⟨g, 1, none⟩)) :: E_ (.slice bo D.bs.length cb) :: E_ (.pointer (some ⟨g, 0, none⟩)) :: E_ (.pointer (some ⟨g, 0, none⟩)) :: E_ (.pointer (some ⟨g, 2, none⟩)) :: E_ (.int .i64 (D.syn : Int)) :: E_ (.int .i64 keep) :: E_ (.int .i64 (max 0 keep)) :: E_ (.int .i64 ((D.bs.length : Int) - (D.syn : Int))) :: E_ (.int .i64 (min (max 0 keep) ((D.bs.length : Int) - (D.syn : Int)))) :: E_ (.int .i64 (K : Int)) :: (fun v w => ∃ bo', v = .slice bo' (D.bs.take K).length cb ∧ Ow w 0 5 v (D.bs.take K) ∧ (∀ ad, bo' = some ad → ∃ a, bo = some a ∧ ad.block = a.block)) :: E_ (.pointer (some ⟨g, 0, none⟩)) :: E_ (.pointer (some ⟨g, 1, none⟩)) :: []) [(0, .pointer (some ⟨g, 0, none⟩)), (1, .int .i64 keep), (4, .int .i64 ((D.bs.length : Int) - (D.syn : Int)))] [] (sc rfl (sc rfl (sc rfl (Sub.nil)))) (Sub.nil) (sc rfl (sc rfl (sc rfl (Sub.nil)))) (by kernel_rfl) rfl rfl rfl (sN (sN (sN (sN (sN (sN (sN (sN (sN (sN (sN (sN (sN (sN (sM (fun _ _ _ ⟨bo', hv, ho, hb⟩ g => ⟨bo', hv, ownsRow_ext ho g, hb⟩) (sN (sN (trivial)))))))))))))))))) ?_ ?_
 refine And.intro (mB rfl rfl (fun _ => rfl) rfl) ?_
 refine And.intro (mB rfl rfl (fun _ => rfl) rfl) ?_
 refine And.intro ?_ ?_
 intro L_ w2 hX_ hs_ hf_ hd_
 obtain ⟨_, e1, rfl⟩ := hd_ 1 rfl
 exact W.s1 (e1 _ rfl) (W.nilCheck rfl rfl (W.e0 rfl))
 refine And.intro ?_ ?_
 intro L_ w2 hX_ hs_ hf_ hd_
 obtain ⟨_, e2, rfl⟩ := hd_ 2 rfl
 exact W.s1 (e2 _ rfl) (W.fieldB (off := 1) (size := 1) (t := 22) (Fld.of (by kernel_rfl)) rfl rfl rfl (W.e0 rfl))
 refine And.intro ?_ ?_
 intro L_ w2 hX_ hs_ hf_ hd_
 obtain ⟨_, e3, rfl⟩ := hd_ 3 rfl
 refine W.s1 (e3 _ rfl) ?_
 refine W.loadB rfl Tryz.underlying22 rfl ((h1.ext hX0).ext hX_) rfl rfl ?_
 exact W.e0 rfl
 refine And.intro (mB rfl rfl (fun _ => rfl) rfl) ?_
 refine And.intro ?_ ?_
 intro L_ w2 hX_ hs_ hf_ hd_
 obtain ⟨_, e5, rfl⟩ := hd_ 5 rfl
 exact W.s1 (e5 _ rfl) (W.nilCheck rfl rfl (W.e0 rfl))
 refine And.intro ?_ ?_
 intro L_ w2 hX_ hs_ hf_ hd_
 obtain ⟨_, e6, rfl⟩ := hd_ 6 rfl
 exact W.s1 (e6 _ rfl) (W.fieldB (off := 2) (size := 1) (t := 3) (Fld.of (by kernel_rfl)) rfl rfl rfl (W.e0 rfl))
 refine And.intro ?_ ?_
 intro L_ w2 hX_ hs_ hf_ hd_
 obtain ⟨_, e7, rfl⟩ := hd_ 7 rfl
 refine W.s1 (e7 _ rfl) ?_
 refine W.loadB rfl Tryz.underlying3 rfl ((h1.ext hX0).ext hX_) rfl rfl ?_
 exact W.e0 rfl
 refine And.intro (mB rfl rfl (fun _ => rfl) rfl) ?_
 refine And.intro ?_ ?_
 intro L_ w2 hX_ hs_ hf_ hd_
 obtain ⟨_, e9, rfl⟩ := hd_ 9 rfl
 refine W.s1 (e9 _ rfl) ?_
 refine W.maxI rfl rfl rfl ?_
 exact W.e0 rfl
 refine And.intro (mB rfl rfl (fun _ => rfl) rfl) ?_
 refine And.intro ?_ ?_
 intro L_ w2 hX_ hs_ hf_ hd_
 obtain ⟨_, e10, rfl⟩ := hd_ 10 rfl
 obtain ⟨_, e11, rfl⟩ := hd_ 11 rfl
 refine W.s2 (e10 _ rfl) (e11 _ rfl) ?_
 refine W.minI rfl rfl rfl ?_
 exact W.e0 rfl
 refine And.intro ?_ ?_
 intro L_ w2 hX_ hs_ hf_ hd_
 obtain ⟨_, e8, rfl⟩ := hd_ 8 rfl
 obtain ⟨_, e12, rfl⟩ := hd_ 12 rfl
 refine W.s2 (e8 _ rfl) (e12 _ rfl) ?_
 refine W.addI rfl rfl (by omega) rfl ?_
 refine W.eqv (v' := .int .i64 (K : Int)) (iV (by rw [hK]; unfold keepN; omega)) ?_
 exact W.e0 rfl
 refine And.intro ?_ ?_
 intro L_ w2 hX_ hs_ hf_ hd_
 obtain ⟨_, e4, rfl⟩ := hd_ 4 rfl
 obtain ⟨_, e13, rfl⟩ := hd_ 13 rfl
 refine W.s2 (e4 _ rfl) (e13 _ rfl) ?_
 refine W.sliceO (k := K) (kk := .i64) E8 Tryz.underlying22 rfl (ownsRow_ext (ownsRow_ext h2 hX0) hX_) rfl hk2 rfl ?_
 intro bo29 ho29 hb29
 exact W.e0 ⟨bo29, rfl, ho29, hb29⟩
 refine And.intro ?_ ?_
 intro L_ w2 hX_ hs_ hf_ hd_
 obtain ⟨_, e0, rfl⟩ := hd_ 0 rfl
 exact W.s1 (e0 _ rfl) (W.nilCheck rfl rfl (W.e0 rfl))
 refine And.intro ?_ ?_
 intro L_ w2 hX_ hs_ hf_ hd_
 obtain ⟨_, e15, rfl⟩ := hd_ 15 rfl
 exact W.s1 (e15 _ rfl) (W.fieldB (off := 1) (size := 1) (t := 22) (Fld.of (by kernel_rfl)) rfl rfl rfl (W.e0 rfl))
 exact trivial
 intro L_ w2 hX1 hs_ hv_
 obtain ⟨_, e16, rfl⟩ := hv_ 16 (by decide)
 obtain ⟨v14, e14, r14⟩ := hv_ 14 (by decide)
 obtain ⟨bo', rfl, hoA, hbA⟩ := r14
 refine W.weaken (l' := [(31, _), (29, _), (0, _), (1, _), (4, _)]) (sc (e16 _ rfl) (sc (e14 _ rfl) (sc (hs_ _ _ rfl) (sc (hs_ _ _ rfl) (sc (hs_ _ _ rfl) (Sub.nil)))))) ?_
 have hX01 := hX0.ext hX1
 refine W.store1 rfl rfl rfl (h1.ext hX01) (by simp) (by kernel_rfl) ?_
 intro w3 hc3 hB3
 have hlk : (D.bs.take K).length = K := by rw [List.length_take]; omega
 refine W.nil (At.thenCode (C.region (W.move rfl rfl (W.move rfl rfl (W.nilCheck rfl rfl (W.fieldB (off := 1) (size := 1) (t := 22) (Fld.of (by kernel_rfl)) rfl rfl rfl ?_))))))
 refine W.loadB rfl Tryz.underlying22 rfl (by assumption) rfl rfl ?_
 refine W.lenS rfl Tryz.underlying22 rfl (W.nilCheck rfl rfl (W.fieldB (off := 2) (size := 1) (t := 3) (Fld.of (by kernel_rfl)) rfl rfl rfl ?_))
 refine W.store1 rfl rfl rfl hB3 (by simp) (by kernel_rfl) ?_
 intro w4 hc4 hB4
 have hB4 : Bk w4 g [.int .i64 rv, .slice bo' (D.bs.take K).length cb, .int .i64 (((D.bs.take K).length : Nat) : Int), .slice fo D.fails.length cf] := hB4
 refine W.nil ?_
 refine At.end0 Tryz.results16 ?_
 have hcz := hc3.trans hc4
 refine ⟨?_, (hX01.mono fun _ c => c.elim).trans (hcz.mono fun k hk => by rw [hk]; exact hD.own)⟩
 exact Dk.rebuild (D := ⟨D.room, D.bs.take K, K, D.fails⟩) hD.own hD.lt hX01.size (by rw [hlk] at hB4 ⊢; exact hB4) hoA (Sl.ext h3 hX01) hcz (fun ad e => by obtain ⟨a, ha, hb⟩ := hbA ad e; rw [hb]; exact ⟨.inl (h4 a ha).1, (h4 a ha).2⟩) (fun ad e hne => by
   have hq := h5 ad e hne
   exact ⟨.inl hq.1, hq.2.1, fun ad' e' => by obtain ⟨a, ha, hb⟩ := hbA ad' e'; rw [hb]; exact hq.2.2 a ha⟩) hok hD.room hD.rvb
theorem RCrash_ok (F : Nat → Prop) (g : Nat) (rv : Int) (D : Dsk) (keep : Int) (w : World) (hD : Dk w F g rv D) : Ct Tryz.prog 17 #[.pointer (some ⟨g, 0, none⟩), .int .i64 keep] w (fun v w' => Dk w' (Grown F w w') g rv (crashD D keep) ∧ Chg F w w') := by
 obtain ⟨bo, cb, fo, cf, h1, h2, h3, h4, h5⟩ := hD.out
 have hsm := hD.ok.small
 have hsy := hD.ok.syn
 obtain ⟨hk1, hk2⟩ := keepN_le hD.ok keep
 have hok := crashD_ok hD.ok keep
 obtain ⟨K, hK⟩ : ∃ K, K = keepN D keep := ⟨_, rfl⟩
 have hcd : crashD D keep = ⟨D.room, D.bs.take K, K, D.fails⟩ := by rw [hK]; rfl
 rw [hcd] at hok ⊢
 rw [← hK] at hk1 hk2
 refine Ct.enter [(0, .pointer (some ⟨g, 0, none⟩)), (1, .int .i64 keep)] Tryz.func17 rfl rfl rfl rfl ?_
 refine C.seq ?_
 refine C.regionAny 11 (E_ (.pointer (some ⟨g, 0, none⟩)) :: E_ (.pointer (some ⟨g, 0, none⟩)) :: E_ (.pointer (some ⟨g, 1, none⟩)) :: E_ (.slice bo D.bs.length cb) :: E_ (.int .i64 (D.bs.length : Int)) :: E_ (.pointer (some ⟨g, 0, none⟩)) :: E_ (.pointer (some ⟨g, 0, none⟩)) :: E_ (.pointer (some ⟨g, 2, none⟩)) :: E_ (.int .i64 (D.syn : Int)) :: E_ (.int .i64 ((D.bs.length : Int) - (D.syn : Int))) :: E_ (.int .i64 ((D.bs.length : Int) - (D.syn : Int))) :: []) [(0, .pointer (some ⟨g, 0, none⟩)), (1, .int .i64 keep)] [] (sc rfl (sc rfl (Sub.nil))) (Sub.nil) (sc rfl (sc rfl (Sub.nil))) (by kernel_rfl) rfl rfl rfl (sN (sN (sN (sN (sN (sN (sN (sN (sN (sN (sN (trivial)))))))))))) ?_ ?_
 refine And.intro (mB rfl rfl (fun _ => rfl) rfl) ?_
 refine And.intro ?_ ?_
 intro L_ w1 hX_ hs_ hf_ hd_
 obtain ⟨_, e0, rfl⟩ := hd_ 0 rfl
 exact W.s1 (e0 _ rfl) (W.nilCheck rfl rfl (W.e0 rfl))
 refine And.intro ?_ ?_
 intro L_ w1 hX_ hs_ hf_ hd_
 obtain ⟨_, e1, rfl⟩ := hd_ 1 rfl
 exact W.s1 (e1 _ rfl) (W.fieldB (off := 1) (size := 1) (t := 22) (Fld.of (by kernel_rfl)) rfl rfl rfl (W.e0 rfl))
 refine And.intro ?_ ?_
 intro L_ w1 hX_ hs_ hf_ hd_
 obtain ⟨_, e2, rfl⟩ := hd_ 2 rfl
 refine W.s1 (e2 _ rfl) ?_
 refine W.loadB rfl Tryz.underlying22 rfl (Bk.ext (by assumption) hX_) rfl rfl ?_
 exact W.e0 rfl
 refine And.intro ?_ ?_
 intro L_ w1 hX_ hs_ hf_ hd_
 obtain ⟨_, e3, rfl⟩ := hd_ 3 rfl
 exact W.s1 (e3 _ rfl) (W.lenS rfl Tryz.underlying22 rfl (W.e0 rfl))
 refine And.intro (mB rfl rfl (fun _ => rfl) rfl) ?_
 refine And.intro ?_ ?_
 intro L_ w1 hX_ hs_ hf_ hd_
 obtain ⟨_, e5, rfl⟩ := hd_ 5 rfl
 exact W.s1 (e5 _ rfl) (W.nilCheck rfl rfl (W.e0 rfl))
 refine And.intro ?_ ?_
 intro L_ w1 hX_ hs_ hf_ hd_
 obtain ⟨_, e6, rfl⟩ := hd_ 6 rfl
 exact W.s1 (e6 _ rfl) (W.fieldB (off := 2) (size := 1) (t := 3) (Fld.of (by kernel_rfl)) rfl rfl rfl (W.e0 rfl))
 refine And.intro ?_ ?_
 intro L_ w1 hX_ hs_ hf_ hd_
 obtain ⟨_, e7, rfl⟩ := hd_ 7 rfl
 refine W.s1 (e7 _ rfl) ?_
 refine W.loadB rfl Tryz.underlying3 rfl (Bk.ext (by assumption) hX_) rfl rfl ?_
 exact W.e0 rfl
 refine And.intro ?_ ?_
 intro L_ w1 hX_ hs_ hf_ hd_
 obtain ⟨_, e4, rfl⟩ := hd_ 4 rfl
 obtain ⟨_, e8, rfl⟩ := hd_ 8 rfl
 refine W.s2 (e4 _ rfl) (e8 _ rfl) ?_
 refine W.subI rfl rfl (by omega) rfl ?_
 exact W.e0 rfl
 refine And.intro ?_ ?_
 intro L_ w1 hX_ hs_ hf_ hd_
 obtain ⟨_, e9, rfl⟩ := hd_ 9 rfl
 exact W.s1 (e9 _ rfl) (W.assign rfl rfl (W.e0 rfl))
 exact trivial
 intro L_ w1 hX0 hs_ hv_
 obtain ⟨_, e10, rfl⟩ := hv_ 10 (by decide)
 refine W.weaken (l' := [(4, _), (0, _), (1, _)]) (sc (e10 _ rfl) (sc (hs_ _ _ rfl) (sc (hs_ _ _ rfl) (Sub.nil)))) ?_
 refine W.nil (At.thenCode (C.seq (C.seq (C.region (W.move rfl rfl (W.lssI rfl rfl rfl (W.nil (At.thenCode ?_))))))))
 refine C.condD rfl (fun c16 => ?_) (fun c16 => ?_)
 refine C.region (W.assign rfl rfl (W.nil (At.thenCode (C.seq (C.seq (C.region (W.move rfl rfl (W.move rfl rfl (W.gtrI rfl rfl rfl (W.nil (At.thenCode ?_)))))))))))
 refine C.condD rfl (fun c19 => ?_) (fun c19 => ?_)
 refine C.region (W.move rfl rfl (W.assign rfl rfl (W.nil (At.thenCode (C.seq ?_)))))
 refine C.regionAny 15 (E_ (.pointer (some ⟨g, 0, none⟩)) :: E_ (.pointer (some ⟨g, 0, none⟩)) :: E_ (.pointer (some ⟨g, 0, none⟩)) :: E_ (.pointer (some ⟨g, 1, none⟩)) :: E_ (.slice bo D.bs.length cb) :: E_ (.pointer (some ⟨g, 0, none⟩)) :: E_ (.pointer (some ⟨g, 0, none⟩)) :: E_ (.pointer (some ⟨g, 2, none⟩)) :: E_ (.int .i64 (D.syn : Int)) :: E_ (.int .i64 ((K : Int) - (D.syn : Int))) :: E_ (.int .i64 (K : Int)) :: (fun v w => ∃ bo', v = .slice bo' (D.bs.take K).length cb ∧ Ow w 0 5 v (D.bs.take K)) :: (fun v w => ∃ bo' c', v = .slice bo' (D.bs.take K).length c' ∧ Ow w 0 5 v (D.bs.take K) ∧ (∀ ad, bo' = some ad → w1.heap.size ≤ ad.block)) :: E_ (.pointer (some ⟨g, 0, none⟩)) :: E_ (.pointer (some ⟨g, 1, none⟩)) :: []) [(0, .pointer (some ⟨g, 0, none⟩)), (1, .int .i64 ((K : Int) - (D.syn : Int)))] [] (sc rfl (sc (look_eq rfl (iV (by rw [hK]; unfold keepN; omega))) (Sub.nil))) (Sub.nil) (sc rfl (sc rfl (Sub.nil))) (by kernel_rfl) rfl rfl rfl (sN (sN (sN (sN (sN (sN (sN (sN (sN (sN (sN (sM (fun _ _ _ ⟨bo', hv, ho⟩ g => ⟨bo', hv, ownsRow_ext ho g⟩) (sM (fun _ _ _ ⟨bo', c', hv, ho, hb⟩ g => ⟨bo', c', hv, ownsRow_ext ho g, hb⟩) (sN (sN (trivial)))))))))))))))) ?_ ?_
 refine And.intro (mB rfl rfl (fun _ => rfl) rfl) ?_
 refine And.intro (mB rfl rfl (fun _ => rfl) rfl) ?_
 refine And.intro ?_ ?_
 intro L_ w2 hX_ hs_ hf_ hd_
 obtain ⟨_, e1, rfl⟩ := hd_ 1 rfl
 exact W.s1 (e1 _ rfl) (W.nilCheck rfl rfl (W.e0 rfl))
 refine And.intro ?_ ?_
 intro L_ w2 hX_ hs_ hf_ hd_
 obtain ⟨_, e2, rfl⟩ := hd_ 2 rfl
 exact W.s1 (e2 _ rfl) (W.fieldB (off := 1) (size := 1) (t := 22) (Fld.of (by kernel_rfl)) rfl rfl rfl (W.e0 rfl))
 refine And.intro ?_ ?_
 intro L_ w2 hX_ hs_ hf_ hd_
 obtain ⟨_, e3, rfl⟩ := hd_ 3 rfl
 refine W.s1 (e3 _ rfl) ?_
 refine W.loadB rfl Tryz.underlying22 rfl ((h1.ext hX0).ext hX_) rfl rfl ?_
 exact W.e0 rfl
 refine And.intro (mB rfl rfl (fun _ => rfl) rfl) ?_
 refine And.intro ?_ ?_
 intro L_ w2 hX_ hs_ hf_ hd_
 obtain ⟨_, e5, rfl⟩ := hd_ 5 rfl
 exact W.s1 (e5 _ rfl) (W.nilCheck rfl rfl (W.e0 rfl))
 refine And.intro ?_ ?_
 intro L_ w2 hX_ hs_ hf_ hd_
 obtain ⟨_, e6, rfl⟩ := hd_ 6 rfl
 exact W.s1 (e6 _ rfl) (W.fieldB (off := 2) (size := 1) (t := 3) (Fld.of (by kernel_rfl)) rfl rfl rfl (W.e0 rfl))
 refine And.intro ?_ ?_
 intro L_ w2 hX_ hs_ hf_ hd_
 obtain ⟨_, e7, rfl⟩ := hd_ 7 rfl
 refine W.s1 (e7 _ rfl) ?_
 refine W.loadB rfl Tryz.underlying3 rfl ((h1.ext hX0).ext hX_) rfl rfl ?_
 exact W.e0 rfl
 refine And.intro (mB rfl rfl (fun _ => rfl) rfl) ?_
 refine And.intro ?_ ?_
 intro L_ w2 hX_ hs_ hf_ hd_
 obtain ⟨_, e8, rfl⟩ := hd_ 8 rfl
 obtain ⟨_, e9, rfl⟩ := hd_ 9 rfl
 refine W.s2 (e8 _ rfl) (e9 _ rfl) ?_
 refine W.addI rfl rfl (by omega) rfl ?_
 refine W.eqv (v' := .int .i64 (K : Int)) (iV (by omega)) ?_
 exact W.e0 rfl
 refine And.intro ?_ ?_
 intro L_ w2 hX_ hs_ hf_ hd_
 obtain ⟨_, e4, rfl⟩ := hd_ 4 rfl
 obtain ⟨_, e10, rfl⟩ := hd_ 10 rfl
 refine W.s2 (e4 _ rfl) (e10 _ rfl) ?_
 refine W.sliceO (k := K) (kk := .i64) E8 Tryz.underlying22 rfl (ownsRow_ext (ownsRow_ext h2 hX0) hX_) rfl hk2 rfl ?_
 intro bo32 ho32 _
 exact W.e0 ⟨bo32, rfl, ho32⟩
 refine And.intro ?_ ?_
 intro L_ w2 hX_ hs_ hf_ hd_
 obtain ⟨v11, e11, r11⟩ := hd_ 11 rfl
 obtain ⟨bo', rfl, hoT⟩ := r11
 refine W.s1 (e11 _ rfl) ?_
 obtain ⟨_, _, heT, hST, _⟩ := ownsRow_form hoT
 injection heT with e1 e2 e3
 subst e1; subst e3
 refine W.appendB E8 Tryz.underlying22 rfl rfl (Ow.nil _ w2.heap.size 5) hST (by rw [List.length_take]; simp; omega) (Nat.le_refl _) rfl ?_
 rw [List.nil_append]
 intro v33 w33 ho33 hg33 _
 have hX33 : Ext w2 w33 := (Chg.of_grown hg33).mono fun k hk => by cases hk
 obtain ⟨ao33, c33, rfl, _, hb33⟩ := ownsRow_form ho33
 exact W.e1 hX33 ⟨ao33, c33, rfl, ownsRow_base ho33 (Nat.zero_le _), fun ad e => by have := hb33 ad e; have := hX_.size; omega⟩
 refine And.intro ?_ ?_
 intro L_ w2 hX_ hs_ hf_ hd_
 obtain ⟨_, e0, rfl⟩ := hd_ 0 rfl
 exact W.s1 (e0 _ rfl) (W.nilCheck rfl rfl (W.e0 rfl))
 refine And.intro ?_ ?_
 intro L_ w2 hX_ hs_ hf_ hd_
 obtain ⟨_, e13, rfl⟩ := hd_ 13 rfl
 exact W.s1 (e13 _ rfl) (W.fieldB (off := 1) (size := 1) (t := 22) (Fld.of (by kernel_rfl)) rfl rfl rfl (W.e0 rfl))
 exact trivial
 intro L_ w2 hX5 hs_ hv_
 obtain ⟨_, e14, rfl⟩ := hv_ 14 (by decide)
 obtain ⟨v12, e12, r12⟩ := hv_ 12 (by decide)
 obtain ⟨aoA, cA, rfl, hoA, hbA⟩ := r12
 refine W.weaken (l' := [(35, _), (33, _), (0, _), (1, _)]) (sc (e14 _ rfl) (sc (e12 _ rfl) (sc (hs_ _ _ rfl) (sc (hs_ _ _ rfl) (Sub.nil))))) ?_
 have hX01 := hX0.ext hX5
 refine W.store1 rfl rfl rfl (h1.ext hX01) (by simp) (by kernel_rfl) ?_
 intro w3 hc3 hB3
 have hlk : (D.bs.take K).length = K := by rw [List.length_take]; omega
 refine W.nil (At.thenCode (C.region (W.move rfl rfl (W.move rfl rfl (W.nilCheck rfl rfl (W.fieldB (off := 1) (size := 1) (t := 22) (Fld.of (by kernel_rfl)) rfl rfl rfl ?_))))))
 refine W.loadB rfl Tryz.underlying22 rfl (by assumption) rfl rfl ?_
 refine W.lenS rfl Tryz.underlying22 rfl (W.nilCheck rfl rfl (W.fieldB (off := 2) (size := 1) (t := 3) (Fld.of (by kernel_rfl)) rfl rfl rfl ?_))
 refine W.store1 rfl rfl rfl hB3 (by simp) (by kernel_rfl) ?_
 intro w4 hc4 hB4
 have hB4 : Bk w4 g [.int .i64 rv, .slice aoA (D.bs.take K).length cA, .int .i64 (((D.bs.take K).length : Nat) : Int), .slice fo D.fails.length cf] := hB4
 refine W.nil ?_
 refine At.end0 Tryz.results17 ?_
 have hcz := hc3.trans hc4
 have hx0 := hX0.size
 refine ⟨?_, (hX01.mono fun _ c => c.elim).trans (hcz.mono fun k hk => by rw [hk]; exact hD.own)⟩
 exact Dk.rebuild (D := ⟨D.room, D.bs.take K, K, D.fails⟩) hD.own hD.lt hX01.size (by rw [hlk] at hB4 ⊢; exact hB4) hoA (Sl.ext h3 hX01) hcz (fun ad e => by
   have hb := hbA ad e
   have hl := ow_lt hoA ad e
   exact ⟨.inr ⟨by omega, hl⟩, fun c => by have := hD.lt g hD.own; omega⟩) (fun ad e hne => by
   have hq := h5 ad e hne
   exact ⟨.inl hq.1, hq.2.1, fun ad' e' => by have := hbA ad' e'; have := hD.lt _ hq.1; omega⟩) hok hD.room hD.rvb
 refine C.skip (At.thenCode (C.seq ?_))
 refine C.regionAny 15 (E_ (.pointer (some ⟨g, 0, none⟩)) :: E_ (.pointer (some ⟨g, 0, none⟩)) :: E_ (.pointer (some ⟨g, 0, none⟩)) :: E_ (.pointer (some ⟨g, 1, none⟩)) :: E_ (.slice bo D.bs.length cb) :: E_ (.pointer (some ⟨g, 0, none⟩)) :: E_ (.pointer (some ⟨g, 0, none⟩)) :: E_ (.pointer (some ⟨g, 2, none⟩)) :: E_ (.int .i64 (D.syn : Int)) :: E_ (.int .i64 ((K : Int) - (D.syn : Int))) :: E_ (.int .i64 (K : Int)) :: (fun v w => ∃ bo', v = .slice bo' (D.bs.take K).length cb ∧ Ow w 0 5 v (D.bs.take K)) :: (fun v w => ∃ bo' c', v = .slice bo' (D.bs.take K).length c' ∧ Ow w 0 5 v (D.bs.take K) ∧ (∀ ad, bo' = some ad → w1.heap.size ≤ ad.block)) :: E_ (.pointer (some ⟨g, 0, none⟩)) :: E_ (.pointer (some ⟨g, 1, none⟩)) :: []) [(0, .pointer (some ⟨g, 0, none⟩)), (1, .int .i64 ((K : Int) - (D.syn : Int)))] [] (sc rfl (sc (look_eq rfl (iV (by rw [hK]; unfold keepN; omega))) (Sub.nil))) (Sub.nil) (sc rfl (sc rfl (Sub.nil))) (by kernel_rfl) rfl rfl rfl (sN (sN (sN (sN (sN (sN (sN (sN (sN (sN (sN (sM (fun _ _ _ ⟨bo', hv, ho⟩ g => ⟨bo', hv, ownsRow_ext ho g⟩) (sM (fun _ _ _ ⟨bo', c', hv, ho, hb⟩ g => ⟨bo', c', hv, ownsRow_ext ho g, hb⟩) (sN (sN (trivial)))))))))))))))) ?_ ?_
 refine And.intro (mB rfl rfl (fun _ => rfl) rfl) ?_
 refine And.intro (mB rfl rfl (fun _ => rfl) rfl) ?_
 refine And.intro ?_ ?_
 intro L_ w2 hX_ hs_ hf_ hd_
 obtain ⟨_, e1, rfl⟩ := hd_ 1 rfl
 exact W.s1 (e1 _ rfl) (W.nilCheck rfl rfl (W.e0 rfl))
 refine And.intro ?_ ?_
 intro L_ w2 hX_ hs_ hf_ hd_
 obtain ⟨_, e2, rfl⟩ := hd_ 2 rfl
 exact W.s1 (e2 _ rfl) (W.fieldB (off := 1) (size := 1) (t := 22) (Fld.of (by kernel_rfl)) rfl rfl rfl (W.e0 rfl))
 refine And.intro ?_ ?_
 intro L_ w2 hX_ hs_ hf_ hd_
 obtain ⟨_, e3, rfl⟩ := hd_ 3 rfl
 refine W.s1 (e3 _ rfl) ?_
 refine W.loadB rfl Tryz.underlying22 rfl ((h1.ext hX0).ext hX_) rfl rfl ?_
 exact W.e0 rfl
 refine And.intro (mB rfl rfl (fun _ => rfl) rfl) ?_
 refine And.intro ?_ ?_
 intro L_ w2 hX_ hs_ hf_ hd_
 obtain ⟨_, e5, rfl⟩ := hd_ 5 rfl
 exact W.s1 (e5 _ rfl) (W.nilCheck rfl rfl (W.e0 rfl))
 refine And.intro ?_ ?_
 intro L_ w2 hX_ hs_ hf_ hd_
 obtain ⟨_, e6, rfl⟩ := hd_ 6 rfl
 exact W.s1 (e6 _ rfl) (W.fieldB (off := 2) (size := 1) (t := 3) (Fld.of (by kernel_rfl)) rfl rfl rfl (W.e0 rfl))
 refine And.intro ?_ ?_
 intro L_ w2 hX_ hs_ hf_ hd_
 obtain ⟨_, e7, rfl⟩ := hd_ 7 rfl
 refine W.s1 (e7 _ rfl) ?_
 refine W.loadB rfl Tryz.underlying3 rfl ((h1.ext hX0).ext hX_) rfl rfl ?_
 exact W.e0 rfl
 refine And.intro (mB rfl rfl (fun _ => rfl) rfl) ?_
 refine And.intro ?_ ?_
 intro L_ w2 hX_ hs_ hf_ hd_
 obtain ⟨_, e8, rfl⟩ := hd_ 8 rfl
 obtain ⟨_, e9, rfl⟩ := hd_ 9 rfl
 refine W.s2 (e8 _ rfl) (e9 _ rfl) ?_
 refine W.addI rfl rfl (by omega) rfl ?_
 refine W.eqv (v' := .int .i64 (K : Int)) (iV (by omega)) ?_
 exact W.e0 rfl
 refine And.intro ?_ ?_
 intro L_ w2 hX_ hs_ hf_ hd_
 obtain ⟨_, e4, rfl⟩ := hd_ 4 rfl
 obtain ⟨_, e10, rfl⟩ := hd_ 10 rfl
 refine W.s2 (e4 _ rfl) (e10 _ rfl) ?_
 refine W.sliceO (k := K) (kk := .i64) E8 Tryz.underlying22 rfl (ownsRow_ext (ownsRow_ext h2 hX0) hX_) rfl hk2 rfl ?_
 intro bo32 ho32 _
 exact W.e0 ⟨bo32, rfl, ho32⟩
 refine And.intro ?_ ?_
 intro L_ w2 hX_ hs_ hf_ hd_
 obtain ⟨v11, e11, r11⟩ := hd_ 11 rfl
 obtain ⟨bo', rfl, hoT⟩ := r11
 refine W.s1 (e11 _ rfl) ?_
 obtain ⟨_, _, heT, hST, _⟩ := ownsRow_form hoT
 injection heT with e1 e2 e3
 subst e1; subst e3
 refine W.appendB E8 Tryz.underlying22 rfl rfl (Ow.nil _ w2.heap.size 5) hST (by rw [List.length_take]; simp; omega) (Nat.le_refl _) rfl ?_
 rw [List.nil_append]
 intro v33 w33 ho33 hg33 _
 have hX33 : Ext w2 w33 := (Chg.of_grown hg33).mono fun k hk => by cases hk
 obtain ⟨ao33, c33, rfl, _, hb33⟩ := ownsRow_form ho33
 exact W.e1 hX33 ⟨ao33, c33, rfl, ownsRow_base ho33 (Nat.zero_le _), fun ad e => by have := hb33 ad e; have := hX_.size; omega⟩
 refine And.intro ?_ ?_
 intro L_ w2 hX_ hs_ hf_ hd_
 obtain ⟨_, e0, rfl⟩ := hd_ 0 rfl
 exact W.s1 (e0 _ rfl) (W.nilCheck rfl rfl (W.e0 rfl))
 refine And.intro ?_ ?_
 intro L_ w2 hX_ hs_ hf_ hd_
 obtain ⟨_, e13, rfl⟩ := hd_ 13 rfl
 exact W.s1 (e13 _ rfl) (W.fieldB (off := 1) (size := 1) (t := 22) (Fld.of (by kernel_rfl)) rfl rfl rfl (W.e0 rfl))
 exact trivial
 intro L_ w2 hX5 hs_ hv_
 obtain ⟨_, e14, rfl⟩ := hv_ 14 (by decide)
 obtain ⟨v12, e12, r12⟩ := hv_ 12 (by decide)
 obtain ⟨aoA, cA, rfl, hoA, hbA⟩ := r12
 refine W.weaken (l' := [(35, _), (33, _), (0, _), (1, _)]) (sc (e14 _ rfl) (sc (e12 _ rfl) (sc (hs_ _ _ rfl) (sc (hs_ _ _ rfl) (Sub.nil))))) ?_
 have hX01 := hX0.ext hX5
 refine W.store1 rfl rfl rfl (h1.ext hX01) (by simp) (by kernel_rfl) ?_
 intro w3 hc3 hB3
 have hlk : (D.bs.take K).length = K := by rw [List.length_take]; omega
 refine W.nil (At.thenCode (C.region (W.move rfl rfl (W.move rfl rfl (W.nilCheck rfl rfl (W.fieldB (off := 1) (size := 1) (t := 22) (Fld.of (by kernel_rfl)) rfl rfl rfl ?_))))))
 refine W.loadB rfl Tryz.underlying22 rfl (by assumption) rfl rfl ?_
 refine W.lenS rfl Tryz.underlying22 rfl (W.nilCheck rfl rfl (W.fieldB (off := 2) (size := 1) (t := 3) (Fld.of (by kernel_rfl)) rfl rfl rfl ?_))
 refine W.store1 rfl rfl rfl hB3 (by simp) (by kernel_rfl) ?_
 intro w4 hc4 hB4
 have hB4 : Bk w4 g [.int .i64 rv, .slice aoA (D.bs.take K).length cA, .int .i64 (((D.bs.take K).length : Nat) : Int), .slice fo D.fails.length cf] := hB4
 refine W.nil ?_
 refine At.end0 Tryz.results17 ?_
 have hcz := hc3.trans hc4
 have hx0 := hX0.size
 refine ⟨?_, (hX01.mono fun _ c => c.elim).trans (hcz.mono fun k hk => by rw [hk]; exact hD.own)⟩
 exact Dk.rebuild (D := ⟨D.room, D.bs.take K, K, D.fails⟩) hD.own hD.lt hX01.size (by rw [hlk] at hB4 ⊢; exact hB4) hoA (Sl.ext h3 hX01) hcz (fun ad e => by
   have hb := hbA ad e
   have hl := ow_lt hoA ad e
   exact ⟨.inr ⟨by omega, hl⟩, fun c => by have := hD.lt g hD.own; omega⟩) (fun ad e hne => by
   have hq := h5 ad e hne
   exact ⟨.inl hq.1, hq.2.1, fun ad' e' => by have := hbA ad' e'; have := hD.lt _ hq.1; omega⟩) hok hD.room hD.rvb
 refine C.skip (At.thenCode (C.seq (C.seq (C.region (W.move rfl rfl (W.move rfl rfl (W.gtrI rfl rfl rfl (W.nil (At.thenCode ?_)))))))))
 refine C.condD rfl (fun c19 => ?_) (fun c19 => ?_)
 refine C.region (W.move rfl rfl (W.assign rfl rfl (W.nil (At.thenCode (C.seq ?_)))))
 refine C.regionAny 15 (E_ (.pointer (some ⟨g, 0, none⟩)) :: E_ (.pointer (some ⟨g, 0, none⟩)) :: E_ (.pointer (some ⟨g, 0, none⟩)) :: E_ (.pointer (some ⟨g, 1, none⟩)) :: E_ (.slice bo D.bs.length cb) :: E_ (.pointer (some ⟨g, 0, none⟩)) :: E_ (.pointer (some ⟨g, 0, none⟩)) :: E_ (.pointer (some ⟨g, 2, none⟩)) :: E_ (.int .i64 (D.syn : Int)) :: E_ (.int .i64 ((K : Int) - (D.syn : Int))) :: E_ (.int .i64 (K : Int)) :: (fun v w => ∃ bo', v = .slice bo' (D.bs.take K).length cb ∧ Ow w 0 5 v (D.bs.take K)) :: (fun v w => ∃ bo' c', v = .slice bo' (D.bs.take K).length c' ∧ Ow w 0 5 v (D.bs.take K) ∧ (∀ ad, bo' = some ad → w1.heap.size ≤ ad.block)) :: E_ (.pointer (some ⟨g, 0, none⟩)) :: E_ (.pointer (some ⟨g, 1, none⟩)) :: []) [(0, .pointer (some ⟨g, 0, none⟩)), (1, .int .i64 ((K : Int) - (D.syn : Int)))] [] (sc rfl (sc (look_eq rfl (iV (by rw [hK]; unfold keepN; omega))) (Sub.nil))) (Sub.nil) (sc rfl (sc rfl (Sub.nil))) (by kernel_rfl) rfl rfl rfl (sN (sN (sN (sN (sN (sN (sN (sN (sN (sN (sN (sM (fun _ _ _ ⟨bo', hv, ho⟩ g => ⟨bo', hv, ownsRow_ext ho g⟩) (sM (fun _ _ _ ⟨bo', c', hv, ho, hb⟩ g => ⟨bo', c', hv, ownsRow_ext ho g, hb⟩) (sN (sN (trivial)))))))))))))))) ?_ ?_
 refine And.intro (mB rfl rfl (fun _ => rfl) rfl) ?_
 refine And.intro (mB rfl rfl (fun _ => rfl) rfl) ?_
 refine And.intro ?_ ?_
 intro L_ w2 hX_ hs_ hf_ hd_
 obtain ⟨_, e1, rfl⟩ := hd_ 1 rfl
 exact W.s1 (e1 _ rfl) (W.nilCheck rfl rfl (W.e0 rfl))
 refine And.intro ?_ ?_
 intro L_ w2 hX_ hs_ hf_ hd_
 obtain ⟨_, e2, rfl⟩ := hd_ 2 rfl
 exact W.s1 (e2 _ rfl) (W.fieldB (off := 1) (size := 1) (t := 22) (Fld.of (by kernel_rfl)) rfl rfl rfl (W.e0 rfl))
 refine And.intro ?_ ?_
 intro L_ w2 hX_ hs_ hf_ hd_
 obtain ⟨_, e3, rfl⟩ := hd_ 3 rfl
 refine W.s1 (e3 _ rfl) ?_
 refine W.loadB rfl Tryz.underlying22 rfl ((h1.ext hX0).ext hX_) rfl rfl ?_
 exact W.e0 rfl
 refine And.intro (mB rfl rfl (fun _ => rfl) rfl) ?_
 refine And.intro ?_ ?_
 intro L_ w2 hX_ hs_ hf_ hd_
 obtain ⟨_, e5, rfl⟩ := hd_ 5 rfl
 exact W.s1 (e5 _ rfl) (W.nilCheck rfl rfl (W.e0 rfl))
 refine And.intro ?_ ?_
 intro L_ w2 hX_ hs_ hf_ hd_
 obtain ⟨_, e6, rfl⟩ := hd_ 6 rfl
 exact W.s1 (e6 _ rfl) (W.fieldB (off := 2) (size := 1) (t := 3) (Fld.of (by kernel_rfl)) rfl rfl rfl (W.e0 rfl))
 refine And.intro ?_ ?_
 intro L_ w2 hX_ hs_ hf_ hd_
 obtain ⟨_, e7, rfl⟩ := hd_ 7 rfl
 refine W.s1 (e7 _ rfl) ?_
 refine W.loadB rfl Tryz.underlying3 rfl ((h1.ext hX0).ext hX_) rfl rfl ?_
 exact W.e0 rfl
 refine And.intro (mB rfl rfl (fun _ => rfl) rfl) ?_
 refine And.intro ?_ ?_
 intro L_ w2 hX_ hs_ hf_ hd_
 obtain ⟨_, e8, rfl⟩ := hd_ 8 rfl
 obtain ⟨_, e9, rfl⟩ := hd_ 9 rfl
 refine W.s2 (e8 _ rfl) (e9 _ rfl) ?_
 refine W.addI rfl rfl (by omega) rfl ?_
 refine W.eqv (v' := .int .i64 (K : Int)) (iV (by omega)) ?_
 exact W.e0 rfl
 refine And.intro ?_ ?_
 intro L_ w2 hX_ hs_ hf_ hd_
 obtain ⟨_, e4, rfl⟩ := hd_ 4 rfl
 obtain ⟨_, e10, rfl⟩ := hd_ 10 rfl
 refine W.s2 (e4 _ rfl) (e10 _ rfl) ?_
 refine W.sliceO (k := K) (kk := .i64) E8 Tryz.underlying22 rfl (ownsRow_ext (ownsRow_ext h2 hX0) hX_) rfl hk2 rfl ?_
 intro bo32 ho32 _
 exact W.e0 ⟨bo32, rfl, ho32⟩
 refine And.intro ?_ ?_
 intro L_ w2 hX_ hs_ hf_ hd_
 obtain ⟨v11, e11, r11⟩ := hd_ 11 rfl
 obtain ⟨bo', rfl, hoT⟩ := r11
 refine W.s1 (e11 _ rfl) ?_
 obtain ⟨_, _, heT, hST, _⟩ := ownsRow_form hoT
 injection heT with e1 e2 e3
 subst e1; subst e3
 refine W.appendB E8 Tryz.underlying22 rfl rfl (Ow.nil _ w2.heap.size 5) hST (by rw [List.length_take]; simp; omega) (Nat.le_refl _) rfl ?_
 rw [List.nil_append]
 intro v33 w33 ho33 hg33 _
 have hX33 : Ext w2 w33 := (Chg.of_grown hg33).mono fun k hk => by cases hk
 obtain ⟨ao33, c33, rfl, _, hb33⟩ := ownsRow_form ho33
 exact W.e1 hX33 ⟨ao33, c33, rfl, ownsRow_base ho33 (Nat.zero_le _), fun ad e => by have := hb33 ad e; have := hX_.size; omega⟩
 refine And.intro ?_ ?_
 intro L_ w2 hX_ hs_ hf_ hd_
 obtain ⟨_, e0, rfl⟩ := hd_ 0 rfl
 exact W.s1 (e0 _ rfl) (W.nilCheck rfl rfl (W.e0 rfl))
 refine And.intro ?_ ?_
 intro L_ w2 hX_ hs_ hf_ hd_
 obtain ⟨_, e13, rfl⟩ := hd_ 13 rfl
 exact W.s1 (e13 _ rfl) (W.fieldB (off := 1) (size := 1) (t := 22) (Fld.of (by kernel_rfl)) rfl rfl rfl (W.e0 rfl))
 exact trivial
 intro L_ w2 hX5 hs_ hv_
 obtain ⟨_, e14, rfl⟩ := hv_ 14 (by decide)
 obtain ⟨v12, e12, r12⟩ := hv_ 12 (by decide)
 obtain ⟨aoA, cA, rfl, hoA, hbA⟩ := r12
 refine W.weaken (l' := [(35, _), (33, _), (0, _), (1, _)]) (sc (e14 _ rfl) (sc (e12 _ rfl) (sc (hs_ _ _ rfl) (sc (hs_ _ _ rfl) (Sub.nil))))) ?_
 have hX01 := hX0.ext hX5
 refine W.store1 rfl rfl rfl (h1.ext hX01) (by simp) (by kernel_rfl) ?_
 intro w3 hc3 hB3
 have hlk : (D.bs.take K).length = K := by rw [List.length_take]; omega
 refine W.nil (At.thenCode (C.region (W.move rfl rfl (W.move rfl rfl (W.nilCheck rfl rfl (W.fieldB (off := 1) (size := 1) (t := 22) (Fld.of (by kernel_rfl)) rfl rfl rfl ?_))))))
 refine W.loadB rfl Tryz.underlying22 rfl (by assumption) rfl rfl ?_
 refine W.lenS rfl Tryz.underlying22 rfl (W.nilCheck rfl rfl (W.fieldB (off := 2) (size := 1) (t := 3) (Fld.of (by kernel_rfl)) rfl rfl rfl ?_))
 refine W.store1 rfl rfl rfl hB3 (by simp) (by kernel_rfl) ?_
 intro w4 hc4 hB4
 have hB4 : Bk w4 g [.int .i64 rv, .slice aoA (D.bs.take K).length cA, .int .i64 (((D.bs.take K).length : Nat) : Int), .slice fo D.fails.length cf] := hB4
 refine W.nil ?_
 refine At.end0 Tryz.results17 ?_
 have hcz := hc3.trans hc4
 have hx0 := hX0.size
 refine ⟨?_, (hX01.mono fun _ c => c.elim).trans (hcz.mono fun k hk => by rw [hk]; exact hD.own)⟩
 exact Dk.rebuild (D := ⟨D.room, D.bs.take K, K, D.fails⟩) hD.own hD.lt hX01.size (by rw [hlk] at hB4 ⊢; exact hB4) hoA (Sl.ext h3 hX01) hcz (fun ad e => by
   have hb := hbA ad e
   have hl := ow_lt hoA ad e
   exact ⟨.inr ⟨by omega, hl⟩, fun c => by have := hD.lt g hD.own; omega⟩) (fun ad e hne => by
   have hq := h5 ad e hne
   exact ⟨.inl hq.1, hq.2.1, fun ad' e' => by have := hbA ad' e'; have := hD.lt _ hq.1; omega⟩) hok hD.room hD.rvb
 refine C.skip (At.thenCode (C.seq ?_))
 refine C.regionAny 15 (E_ (.pointer (some ⟨g, 0, none⟩)) :: E_ (.pointer (some ⟨g, 0, none⟩)) :: E_ (.pointer (some ⟨g, 0, none⟩)) :: E_ (.pointer (some ⟨g, 1, none⟩)) :: E_ (.slice bo D.bs.length cb) :: E_ (.pointer (some ⟨g, 0, none⟩)) :: E_ (.pointer (some ⟨g, 0, none⟩)) :: E_ (.pointer (some ⟨g, 2, none⟩)) :: E_ (.int .i64 (D.syn : Int)) :: E_ (.int .i64 ((K : Int) - (D.syn : Int))) :: E_ (.int .i64 (K : Int)) :: (fun v w => ∃ bo', v = .slice bo' (D.bs.take K).length cb ∧ Ow w 0 5 v (D.bs.take K)) :: (fun v w => ∃ bo' c', v = .slice bo' (D.bs.take K).length c' ∧ Ow w 0 5 v (D.bs.take K) ∧ (∀ ad, bo' = some ad → w1.heap.size ≤ ad.block)) :: E_ (.pointer (some ⟨g, 0, none⟩)) :: E_ (.pointer (some ⟨g, 1, none⟩)) :: []) [(0, .pointer (some ⟨g, 0, none⟩)), (1, .int .i64 ((K : Int) - (D.syn : Int)))] [] (sc rfl (sc (look_eq rfl (iV (by rw [hK]; unfold keepN; omega))) (Sub.nil))) (Sub.nil) (sc rfl (sc rfl (Sub.nil))) (by kernel_rfl) rfl rfl rfl (sN (sN (sN (sN (sN (sN (sN (sN (sN (sN (sN (sM (fun _ _ _ ⟨bo', hv, ho⟩ g => ⟨bo', hv, ownsRow_ext ho g⟩) (sM (fun _ _ _ ⟨bo', c', hv, ho, hb⟩ g => ⟨bo', c', hv, ownsRow_ext ho g, hb⟩) (sN (sN (trivial)))))))))))))))) ?_ ?_
 refine And.intro (mB rfl rfl (fun _ => rfl) rfl) ?_
 refine And.intro (mB rfl rfl (fun _ => rfl) rfl) ?_
 refine And.intro ?_ ?_
 intro L_ w2 hX_ hs_ hf_ hd_
 obtain ⟨_, e1, rfl⟩ := hd_ 1 rfl
 exact W.s1 (e1 _ rfl) (W.nilCheck rfl rfl (W.e0 rfl))
 refine And.intro ?_ ?_
 intro L_ w2 hX_ hs_ hf_ hd_
 obtain ⟨_, e2, rfl⟩ := hd_ 2 rfl
 exact W.s1 (e2 _ rfl) (W.fieldB (off := 1) (size := 1) (t := 22) (Fld.of (by kernel_rfl)) rfl rfl rfl (W.e0 rfl))
 refine And.intro ?_ ?_
 intro L_ w2 hX_ hs_ hf_ hd_
 obtain ⟨_, e3, rfl⟩ := hd_ 3 rfl
 refine W.s1 (e3 _ rfl) ?_
 refine W.loadB rfl Tryz.underlying22 rfl ((h1.ext hX0).ext hX_) rfl rfl ?_
 exact W.e0 rfl
 refine And.intro (mB rfl rfl (fun _ => rfl) rfl) ?_
 refine And.intro ?_ ?_
 intro L_ w2 hX_ hs_ hf_ hd_
 obtain ⟨_, e5, rfl⟩ := hd_ 5 rfl
 exact W.s1 (e5 _ rfl) (W.nilCheck rfl rfl (W.e0 rfl))
 refine And.intro ?_ ?_
 intro L_ w2 hX_ hs_ hf_ hd_
 obtain ⟨_, e6, rfl⟩ := hd_ 6 rfl
 exact W.s1 (e6 _ rfl) (W.fieldB (off := 2) (size := 1) (t := 3) (Fld.of (by kernel_rfl)) rfl rfl rfl (W.e0 rfl))
 refine And.intro ?_ ?_
 intro L_ w2 hX_ hs_ hf_ hd_
 obtain ⟨_, e7, rfl⟩ := hd_ 7 rfl
 refine W.s1 (e7 _ rfl) ?_
 refine W.loadB rfl Tryz.underlying3 rfl ((h1.ext hX0).ext hX_) rfl rfl ?_
 exact W.e0 rfl
 refine And.intro (mB rfl rfl (fun _ => rfl) rfl) ?_
 refine And.intro ?_ ?_
 intro L_ w2 hX_ hs_ hf_ hd_
 obtain ⟨_, e8, rfl⟩ := hd_ 8 rfl
 obtain ⟨_, e9, rfl⟩ := hd_ 9 rfl
 refine W.s2 (e8 _ rfl) (e9 _ rfl) ?_
 refine W.addI rfl rfl (by omega) rfl ?_
 refine W.eqv (v' := .int .i64 (K : Int)) (iV (by omega)) ?_
 exact W.e0 rfl
 refine And.intro ?_ ?_
 intro L_ w2 hX_ hs_ hf_ hd_
 obtain ⟨_, e4, rfl⟩ := hd_ 4 rfl
 obtain ⟨_, e10, rfl⟩ := hd_ 10 rfl
 refine W.s2 (e4 _ rfl) (e10 _ rfl) ?_
 refine W.sliceO (k := K) (kk := .i64) E8 Tryz.underlying22 rfl (ownsRow_ext (ownsRow_ext h2 hX0) hX_) rfl hk2 rfl ?_
 intro bo32 ho32 _
 exact W.e0 ⟨bo32, rfl, ho32⟩
 refine And.intro ?_ ?_
 intro L_ w2 hX_ hs_ hf_ hd_
 obtain ⟨v11, e11, r11⟩ := hd_ 11 rfl
 obtain ⟨bo', rfl, hoT⟩ := r11
 refine W.s1 (e11 _ rfl) ?_
 obtain ⟨_, _, heT, hST, _⟩ := ownsRow_form hoT
 injection heT with e1 e2 e3
 subst e1; subst e3
 refine W.appendB E8 Tryz.underlying22 rfl rfl (Ow.nil _ w2.heap.size 5) hST (by rw [List.length_take]; simp; omega) (Nat.le_refl _) rfl ?_
 rw [List.nil_append]
 intro v33 w33 ho33 hg33 _
 have hX33 : Ext w2 w33 := (Chg.of_grown hg33).mono fun k hk => by cases hk
 obtain ⟨ao33, c33, rfl, _, hb33⟩ := ownsRow_form ho33
 exact W.e1 hX33 ⟨ao33, c33, rfl, ownsRow_base ho33 (Nat.zero_le _), fun ad e => by have := hb33 ad e; have := hX_.size; omega⟩
 refine And.intro ?_ ?_
 intro L_ w2 hX_ hs_ hf_ hd_
 obtain ⟨_, e0, rfl⟩ := hd_ 0 rfl
 exact W.s1 (e0 _ rfl) (W.nilCheck rfl rfl (W.e0 rfl))
 refine And.intro ?_ ?_
 intro L_ w2 hX_ hs_ hf_ hd_
 obtain ⟨_, e13, rfl⟩ := hd_ 13 rfl
 exact W.s1 (e13 _ rfl) (W.fieldB (off := 1) (size := 1) (t := 22) (Fld.of (by kernel_rfl)) rfl rfl rfl (W.e0 rfl))
 exact trivial
 intro L_ w2 hX5 hs_ hv_
 obtain ⟨_, e14, rfl⟩ := hv_ 14 (by decide)
 obtain ⟨v12, e12, r12⟩ := hv_ 12 (by decide)
 obtain ⟨aoA, cA, rfl, hoA, hbA⟩ := r12
 refine W.weaken (l' := [(35, _), (33, _), (0, _), (1, _)]) (sc (e14 _ rfl) (sc (e12 _ rfl) (sc (hs_ _ _ rfl) (sc (hs_ _ _ rfl) (Sub.nil))))) ?_
 have hX01 := hX0.ext hX5
 refine W.store1 rfl rfl rfl (h1.ext hX01) (by simp) (by kernel_rfl) ?_
 intro w3 hc3 hB3
 have hlk : (D.bs.take K).length = K := by rw [List.length_take]; omega
 refine W.nil (At.thenCode (C.region (W.move rfl rfl (W.move rfl rfl (W.nilCheck rfl rfl (W.fieldB (off := 1) (size := 1) (t := 22) (Fld.of (by kernel_rfl)) rfl rfl rfl ?_))))))
 refine W.loadB rfl Tryz.underlying22 rfl (by assumption) rfl rfl ?_
 refine W.lenS rfl Tryz.underlying22 rfl (W.nilCheck rfl rfl (W.fieldB (off := 2) (size := 1) (t := 3) (Fld.of (by kernel_rfl)) rfl rfl rfl ?_))
 refine W.store1 rfl rfl rfl hB3 (by simp) (by kernel_rfl) ?_
 intro w4 hc4 hB4
 have hB4 : Bk w4 g [.int .i64 rv, .slice aoA (D.bs.take K).length cA, .int .i64 (((D.bs.take K).length : Nat) : Int), .slice fo D.fails.length cf] := hB4
 refine W.nil ?_
 refine At.end0 Tryz.results17 ?_
 have hcz := hc3.trans hc4
 have hx0 := hX0.size
 refine ⟨?_, (hX01.mono fun _ c => c.elim).trans (hcz.mono fun k hk => by rw [hk]; exact hD.own)⟩
 exact Dk.rebuild (D := ⟨D.room, D.bs.take K, K, D.fails⟩) hD.own hD.lt hX01.size (by rw [hlk] at hB4 ⊢; exact hB4) hoA (Sl.ext h3 hX01) hcz (fun ad e => by
   have hb := hbA ad e
   have hl := ow_lt hoA ad e
   exact ⟨.inr ⟨by omega, hl⟩, fun c => by have := hD.lt g hD.own; omega⟩) (fun ad e hne => by
   have hq := h5 ad e hne
   exact ⟨.inl hq.1, hq.2.1, fun ad' e' => by have := hbA ad' e'; have := hD.lt _ hq.1; omega⟩) hok hD.room hD.rvb
end Go.Proofs.YthiijdbiikljpaaGreat.Disk
namespace Go.Proofs.YthiijdbiikljpaaGreat.Mbx
open Go Go.RowKit Go.Proofs.YthiijdbiikljpaaGreat.KW Go.Proofs.YthiijdbiikljpaaGreat.Words Go.Proofs.YthiijdbiikljpaaGreat.Sha Go.Proofs.YthiijdbiikljpaaGreat.RSha Go.Proofs.YthiijdbiikljpaaGreat.Grp Go.Proofs.YthiijdbiikljpaaGreat.Cod Go.Proofs.YthiijdbiikljpaaGreat.Disk
set_option linter.unusedVariables false
set_option linter.unusedSimpArgs false
set_option maxRecDepth 100000
abbrev Thing := World → (Nat → Prop) → Prop
structure ThOk (P : Thing) : Prop where
  chg : ∀ {S F : Nat → Prop} {w w' : World}, P w F → Chg S w w' → (∀ k, F k → ¬ S k) → P w' F
  lt : ∀ {F : Nat → Prop} {w : World}, P w F → ∀ k, F k → k < w.heap.size
def TD (dg : Nat) (rv : Int) (D : Dsk) : Thing := fun w F => Dk w F dg rv D
def TS (g dg : Nat) (rv : Int) (B : Box) : Thing := fun w F => (∃ F1 Fd : Nat → Prop, St w F1 g dg B.s B.owed ∧ Dk w Fd dg rv B.D ∧ (∀ k, F1 k → ¬ Fd k) ∧ (∀ k, F1 k → F k) ∧ ∀ k, Fd k → F k) ∧ ∀ k, F k → k < w.heap.size
def TR (g dg : Nat) (rv : Int) (B : Box) : Thing := fun w F => (∃ F1 Fd : Nat → Prop, RSt w F1 g dg B.s B.owed ∧ Dk w Fd dg rv B.D ∧ (∀ k, F1 k → ¬ Fd k) ∧ (∀ k, F1 k → F k) ∧ ∀ k, Fd k → F k) ∧ ∀ k, F k → k < w.heap.size
theorem TD.ok (dg : Nat) (rv : Int) (D : Dsk) : ThOk (TD dg rv D) := ⟨fun h c hd => Dk.chg h c hd, fun h => Dk.lt h⟩
theorem TS.ok (g dg : Nat) (rv : Int) (B : Box) : ThOk (TS g dg rv B) := ⟨fun h c hd => by
 obtain ⟨⟨F1, Fd, h1, h2, h3, h4, h5⟩, hl⟩ := h
 exact ⟨⟨F1, Fd, h1.chg c fun k hk => hd k (h4 k hk), h2.chg c fun k hk => hd k (h5 k hk), h3, h4, h5⟩, fun k hk => Nat.lt_of_lt_of_le (hl k hk) c.size⟩, fun h => h.2⟩
theorem TR.ok (g dg : Nat) (rv : Int) (B : Box) : ThOk (TR g dg rv B) := ⟨fun h c hd => by
 obtain ⟨⟨F1, Fd, h1, h2, h3, h4, h5⟩, hl⟩ := h
 exact ⟨⟨F1, Fd, h1.chg c fun k hk => hd k (h4 k hk), h2.chg c fun k hk => hd k (h5 k hk), h3, h4, h5⟩, fun k hk => Nat.lt_of_lt_of_le (hl k hk) c.size⟩, fun h => h.2⟩
structure Duo (w0 w : World) (Y : Nat → Prop) (P R : Thing) : Prop where
  out : ∃ F G : Nat → Prop, P w F ∧ R w G ∧ (∀ k, F k → ¬ G k) ∧ (∀ k, F k → Fr w0 Y k) ∧ ∀ k, G k → Fr w0 Y k
  ext : Ext w0 w
  y : ∀ k, Y k → k < w.heap.size
  okP : ThOk P
  okR : ThOk R
section
variable {w0 w w' : World} {Y : Nat → Prop} {P R P' R' : Thing} {g dg g' dg' : Nat} {rv rv' : Int} {B B' : Box} {D : Dsk}
theorem ThOk.ext {P : Thing} (h : ThOk P) {F : Nat → Prop} {w w' : World} (p : P w F) (x : Ext w w') : P w' F := h.chg p x fun _ _ c => c
theorem Duo.xt (h : Duo w0 w Y P R) (x : Ext w w') : Duo w0 w' Y P R := by
 obtain ⟨F, G, h1, h2, h3, h4, h5⟩ := h.out
 exact ⟨⟨F, G, h.okP.ext h1 x, h.okR.ext h2 x, h3, h4, h5⟩, h.ext.ext x, fun k hk => Nat.lt_of_lt_of_le (h.y k hk) x.size, h.okP, h.okR⟩
theorem Duo.more (h : Duo w0 w Y P R) (x : Ext w w') : Duo w0 w' (More Y w w') P R := by
 obtain ⟨F, G, h1, h2, h3, h4, h5⟩ := h.out
 have hs := x.size
 refine ⟨⟨F, G, h.okP.ext h1 x, h.okR.ext h2 x, h3, fun k hk => ⟨fun hy => ?_, (h4 k hk).2⟩, fun k hk => ⟨fun hy => ?_, (h5 k hk).2⟩⟩, h.ext.ext x, fun k hk => ?_, h.okP, h.okR⟩
 rcases hy with hy | hy
 exact (h4 k hk).1 hy
 have := h.okP.lt h1 k hk; omega
 rcases hy with hy | hy
 exact (h5 k hk).1 hy
 have := h.okR.lt h2 k hk; omega
 rcases hk with hk | hk
 have := h.y k hk; omega
 exact hk.2
theorem Duo.less {Y' : Nat → Prop} (h : Duo w0 w Y P R) (hy : ∀ k, Y' k → Y k) : Duo w0 w Y' P R := by
 obtain ⟨F, G, h1, h2, h3, h4, h5⟩ := h.out
 exact ⟨⟨F, G, h1, h2, h3, fun k hk => ⟨fun c => (h4 k hk).1 (hy k c), (h4 k hk).2⟩, fun k hk => ⟨fun c => (h5 k hk).1 (hy k c), (h5 k hk).2⟩⟩, h.ext, fun k hk => h.y k (hy k hk), h.okP, h.okR⟩
theorem Duo.left (h : Duo w0 w Y P R) : ∃ F : Nat → Prop, P w F ∧ (∀ k, F k → Fr w0 Y k) ∧ ∀ {w' : World} {P' : Thing}, ThOk P' → P' w' (Grown F w w') → Chg F w w' → Duo w0 w' Y P' R ∧ Chg (Fr w0 Y) w w' := by
 obtain ⟨F, G, h1, h2, h3, h4, h5⟩ := h.out
 refine ⟨F, h1, h4, fun {w' P'} hp h1' hc => ?_⟩
 have hs := h.ext.size
 have hC : Chg (Fr w0 Y) w w' := hc.mono h4
 refine ⟨⟨⟨Grown F w w', G, h1', h.okR.chg h2 hc fun k hk hf => h3 k hf hk, fun k hk hg => ?_, fun k hk => ?_, h5⟩, h.ext.news hC fun k hk => .inr hk.2, fun k hk => Nat.lt_of_lt_of_le (h.y k hk) hc.size, hp, h.okR⟩, hC⟩
 rcases hk with hk | hk
 exact h3 k hk hg
 have := h.okR.lt h2 k hg; omega
 rcases hk with hk | hk
 exact h4 k hk
 exact ⟨fun hy => by have := h.y k hy; omega, by omega⟩
theorem Duo.swap (h : Duo w0 w Y P R) : Duo w0 w Y R P := by
 obtain ⟨F, G, h1, h2, h3, h4, h5⟩ := h.out
 exact ⟨⟨G, F, h2, h1, fun k hk hf => h3 k hf hk, h5, h4⟩, h.ext, h.y, h.okR, h.okP⟩
theorem Duo.right (h : Duo w0 w Y P R) : ∃ F : Nat → Prop, R w F ∧ (∀ k, F k → Fr w0 Y k) ∧ ∀ {w' : World} {R' : Thing}, ThOk R' → R' w' (Grown F w w') → Chg F w w' → Duo w0 w' Y P R' ∧ Chg (Fr w0 Y) w w' := by
 obtain ⟨F, h1, h2, h3⟩ := h.swap.left
 exact ⟨F, h1, h2, fun {w' R'} hp h1' hc => ⟨(h3 hp h1' hc).1.swap, (h3 hp h1' hc).2⟩⟩
theorem Duo.mapL (h : Duo w0 w Y P R) (hp : ThOk P') (hm : ∀ F, P w F → ∃ F' : Nat → Prop, P' w F' ∧ ∀ k, F' k → F k) : Duo w0 w Y P' R := by
 obtain ⟨F, G, h1, h2, h3, h4, h5⟩ := h.out
 obtain ⟨F', q1, q2⟩ := hm F h1
 exact ⟨⟨F', G, q1, h2, fun k hk => h3 k (q2 k hk), fun k hk => h4 k (q2 k hk), h5⟩, h.ext, h.y, hp, h.okR⟩
theorem Duo.diskL (h : Duo w0 w Y (TS g dg rv B) R) : Duo w0 w Y (TD dg rv B.D) R := h.mapL (TD.ok _ _ _) fun F hF => by
 obtain ⟨⟨F1, Fd, h1, h2, h3, h4, h5⟩, hl⟩ := hF
 exact ⟨Fd, h2, h5⟩
theorem Duo.diskR (h : Duo w0 w Y P (TR g dg rv B)) : Duo w0 w Y P (TD dg rv B.D) := (h.swap.mapL (TD.ok _ _ _) fun F hF => by
 obtain ⟨⟨F1, Fd, h1, h2, h3, h4, h5⟩, hl⟩ := hF
 exact ⟨Fd, h2, h5⟩).swap
theorem TS.both {F F1 Fd : Nat → Prop} (h4 : ∀ k, F1 k → F k) (h5 : ∀ k, Fd k → F k) (hl : ∀ k, F k → k < w.heap.size) (hb : Both F1 Fd g dg rv B w w') : TS g dg rv B w' (Grown F w w') ∧ Chg F w w' := by
 obtain ⟨F', Fd', q1, q2, q3, q4, q5⟩ := hb.out
 exact ⟨⟨⟨F', Fd', q1, q2, q5, fun k hk => (q3 k hk).imp (h4 k) fun h => ⟨h, q1.lt k hk⟩, fun k hk => (q4 k hk).imp (h5 k) fun h => ⟨h, q2.lt k hk⟩⟩, Grown.lt hl hb.chg.size⟩, hb.chg.mono fun k hk => hk.elim (h4 k) (h5 k)⟩
theorem TR.both {F F1 Fd : Nat → Prop} (h4 : ∀ k, F1 k → F k) (h5 : ∀ k, Fd k → F k) (hl : ∀ k, F k → k < w.heap.size) (hb : RBoth F1 Fd g dg rv B w w') : TR g dg rv B w' (Grown F w w') ∧ Chg F w w' := by
 obtain ⟨F', Fd', q1, q2, q3, q4, q5⟩ := hb.out
 exact ⟨⟨⟨F', Fd', q1, q2, q5, fun k hk => (q3 k hk).imp (h4 k) fun h => ⟨h, q1.lt k hk⟩, fun k hk => (q4 k hk).imp (h5 k) fun h => ⟨h, q2.lt k hk⟩⟩, Grown.lt hl hb.chg.size⟩, hb.chg.mono fun k hk => hk.elim (h4 k) (h5 k)⟩
theorem Duo.Accept (h : Duo w0 w Y (TS g dg rv B) R) (hrv : 0 ≤ rv) {x : BatD} {vi vl : Value} {ap : Option Addr} {cp : Nat} {ps : List Nat} (hb : BatM (Fr w0 Y) w x vi vl) (hp : Els (fun _ => False) w 10 RPub ap cp ps) (hpl : ps.length ≤ 9223372036854775807) (hbl : (batB x).length ≤ 900000) (hDl : B.D.bs.length ≤ 1000000000) (hsl : B.s.l.length ≤ 1000000000) :
   Ct Tryz.prog 12 #[.pointer (some ⟨g, 0, none⟩), .agg (batC x vi vl).toArray, .slice ap ps.length cp] w (fun v w' => v = .int .i64 (acceptE B x ps : Int) ∧ Duo w0 w' Y (TS g dg rv (acceptB B x ps)) R ∧ Chg (Fr w0 Y) w w') := by
 obtain ⟨F, ⟨⟨F1, Fd, h1, h2, h3, h4, h5⟩, hl⟩, hF, hput⟩ := h.left
 refine (Accept_ok F1 Fd g dg rv B x vi vl ap cp ps w h1 h2 h3 hrv (hb.new fun k hk _ => hF k (hk.elim (h4 k) (h5 k))) hp hpl hbl hDl hsl).mono ?_
 rintro v w' ⟨rfl, hB⟩
 obtain ⟨q1, q2⟩ := TS.both h4 h5 hl hB
 exact ⟨rfl, hput (TS.ok _ _ _ _) q1 q2⟩
theorem Duo.RAccept (h : Duo w0 w Y P (TR g dg rv B)) {x : BatD} {vi vl : Value} {ap : Option Addr} {cp : Nat} {ps : List Nat} (hb : BatM (Fr w0 Y) w x vi vl) (hp : Els (fun _ => False) w 10 RPub ap cp ps) (hpl : ps.length ≤ 9223372036854775807) (hbl : (batB x).length ≤ 900000) (hDl : B.D.bs.length ≤ 1000000000) (hsl : B.s.l.length ≤ 1000000000) :
   Ct Tryz.prog 13 #[.pointer (some ⟨g, 0, none⟩), .agg (batC x vi vl).toArray, .slice ap ps.length cp] w (fun v w' => v = .int .i64 (acceptE B x ps : Int) ∧ Duo w0 w' Y P (TR g dg rv (acceptB B x ps)) ∧ Chg (Fr w0 Y) w w') := by
 obtain ⟨F, ⟨⟨F1, Fd, h1, h2, h3, h4, h5⟩, hl⟩, hF, hput⟩ := h.right
 refine (RAccept_ok F1 Fd g dg rv B x vi vl ap cp ps w h1 h2 h3 (hb.new fun k hk _ => hF k (hk.elim (h4 k) (h5 k))) hp hpl hbl hDl hsl).mono ?_
 rintro v w' ⟨rfl, hB⟩
 obtain ⟨q1, q2⟩ := TR.both h4 h5 hl hB
 exact ⟨rfl, hput (TR.ok _ _ _ _) q1 q2⟩
theorem Duo.Expire (h : Duo w0 w Y (TS g dg rv B) R) (hrv : 0 ≤ rv) {r : Int} (hDl : B.D.bs.length ≤ 1000000000) (hsl : B.s.l.length ≤ 1000000000) (hri : InI r) :
   Ct Tryz.prog 14 #[.pointer (some ⟨g, 0, none⟩), .int .i64 r] w (fun v w' => v = .int .i64 (expireE B r : Int) ∧ Duo w0 w' Y (TS g dg rv (expireB B r)) R ∧ Chg (Fr w0 Y) w w') := by
 obtain ⟨F, ⟨⟨F1, Fd, h1, h2, h3, h4, h5⟩, hl⟩, hF, hput⟩ := h.left
 refine (Expire_ok F1 Fd g dg rv B r w h1 h2 h3 hrv hDl hsl hri).mono ?_
 rintro v w' ⟨rfl, hB⟩
 obtain ⟨q1, q2⟩ := TS.both h4 h5 hl hB
 exact ⟨rfl, hput (TS.ok _ _ _ _) q1 q2⟩
theorem Duo.RExpire (h : Duo w0 w Y P (TR g dg rv B)) {r : Int} (hDl : B.D.bs.length ≤ 1000000000) (hsl : B.s.l.length ≤ 1000000000) (hri : InI r) :
   Ct Tryz.prog 15 #[.pointer (some ⟨g, 0, none⟩), .int .i64 r] w (fun v w' => v = .int .i64 (expireE B r : Int) ∧ Duo w0 w' Y P (TR g dg rv (expireB B r)) ∧ Chg (Fr w0 Y) w w') := by
 obtain ⟨F, ⟨⟨F1, Fd, h1, h2, h3, h4, h5⟩, hl⟩, hF, hput⟩ := h.right
 refine (RExpire_ok F1 Fd g dg rv B r w h1 h2 h3 hDl hsl hri).mono ?_
 rintro v w' ⟨rfl, hB⟩
 obtain ⟨q1, q2⟩ := TR.both h4 h5 hl hB
 exact ⟨rfl, hput (TR.ok _ _ _ _) q1 q2⟩
theorem Duo.Open (h : Duo w0 w Y (TD dg rv D) R) (hl : D.bs.length ≤ 1000000) :
   Ct Tryz.prog 9 #[.pointer (some ⟨dg, 0, none⟩)] w (fun v w' => ∃ g, v = .pointer (some ⟨g, 0, none⟩) ∧ Duo w0 w' Y (TS g dg rv (openB D)) R ∧ Chg (Fr w0 Y) w w') := by
 obtain ⟨F, h1, hF, hput⟩ := h.left
 have hlt := Dk.lt h1
 refine (Open_ok F dg rv D w h1 hl).mono ?_
 rintro v w' ⟨g, rfl, ho⟩
 obtain ⟨F', Fd', q1, q2, q3, q4, q5⟩ := ho.out
 exact ⟨g, rfl, hput (TS.ok _ _ _ _) ⟨⟨F', Fd', q1, q2, q4, fun k hk => .inr ⟨q3 k hk, q1.lt k hk⟩, fun k hk => (q5 k hk).imp id fun h => ⟨h, q2.lt k hk⟩⟩, Grown.lt hlt ho.chg.size⟩ ho.chg⟩
theorem Duo.ROpen (h : Duo w0 w Y P (TD dg rv D)) (hl : D.bs.length ≤ 1000000) :
   Ct Tryz.prog 10 #[.pointer (some ⟨dg, 0, none⟩)] w (fun v w' => ∃ g, v = .pointer (some ⟨g, 0, none⟩) ∧ Duo w0 w' Y P (TR g dg rv (openB D)) ∧ Chg (Fr w0 Y) w w') := by
 obtain ⟨F, h1, hF, hput⟩ := h.right
 have hlt := Dk.lt h1
 refine (ROpen_ok F dg rv D w h1 hl).mono ?_
 rintro v w' ⟨g, rfl, ho⟩
 obtain ⟨F', Fd', q1, q2, q3, q4, q5⟩ := ho.out
 exact ⟨g, rfl, hput (TR.ok _ _ _ _) ⟨⟨F', Fd', q1, q2, q4, fun k hk => .inr ⟨q3 k hk, q1.lt k hk⟩, fun k hk => (q5 k hk).imp id fun h => ⟨h, q2.lt k hk⟩⟩, Grown.lt hlt ho.chg.size⟩ ho.chg⟩
theorem Duo.Crash (h : Duo w0 w Y (TD dg rv D) R) (n : Int) :
   Ct Tryz.prog 16 #[.pointer (some ⟨dg, 0, none⟩), .int .i64 n] w (fun v w' => Duo w0 w' Y (TD dg rv (crashD D n)) R ∧ Chg (Fr w0 Y) w w') := by
 obtain ⟨F, h1, hF, hput⟩ := h.left
 refine (Disk.Crash_ok F dg rv D n w h1).mono ?_
 rintro v w' ⟨q1, q2⟩
 exact hput (TD.ok _ _ _) q1 q2
theorem Duo.RCrash (h : Duo w0 w Y P (TD dg rv D)) (n : Int) :
   Ct Tryz.prog 17 #[.pointer (some ⟨dg, 0, none⟩), .int .i64 n] w (fun v w' => Duo w0 w' Y P (TD dg rv (crashD D n)) ∧ Chg (Fr w0 Y) w w') := by
 obtain ⟨F, h1, hF, hput⟩ := h.right
 refine (Disk.RCrash_ok F dg rv D n w h1).mono ?_
 rintro v w' ⟨q1, q2⟩
 exact hput (TD.ok _ _ _) q1 q2
theorem Duo.Append (h : Duo w0 w Y (TD dg rv D) R) (hrv : 0 ≤ rv) {ap : Option Addr} {cp : Nat} {b : List UInt8} (hB : Bs w ap cp b) (hap : ∀ ad, ap = some ad → b ≠ [] → ¬ Fr w0 Y ad.block) (hl : D.bs.length + b.length ≤ 10000000000) :
   Ct Tryz.prog 7 #[.pointer (some ⟨dg, 0, none⟩), .slice ap b.length cp] w (fun v w' => v = .int .i64 (appE D b : Int) ∧ Duo w0 w' Y (TD dg rv (appD D b)) R ∧ Chg (Fr w0 Y) w w') := by
 obtain ⟨F, h1, hF, hput⟩ := h.left
 refine (Disk.Append_ok F dg rv D ap cp b w h1 hrv hB (fun ad e hne hf => hap ad e hne (hF _ hf)) hl).mono ?_
 rintro v w' ⟨rfl, q1, q2⟩
 exact ⟨rfl, hput (TD.ok _ _ _) q1 q2⟩
theorem Duo.RAppend (h : Duo w0 w Y P (TD dg rv D)) {ap : Option Addr} {cp : Nat} {b : List UInt8} (hB : Bs w ap cp b) (hap : ∀ ad, ap = some ad → b ≠ [] → ¬ Fr w0 Y ad.block) (hl : D.bs.length + b.length ≤ 10000000000) :
   Ct Tryz.prog 8 #[.pointer (some ⟨dg, 0, none⟩), .slice ap b.length cp] w (fun v w' => v = .int .i64 (appE D b : Int) ∧ Duo w0 w' Y P (TD dg rv (appD D b)) ∧ Chg (Fr w0 Y) w w') := by
 obtain ⟨F, h1, hF, hput⟩ := h.right
 refine (Disk.RAppend_ok F dg rv D ap cp b w h1 hB (fun ad e hne hf => hap ad e hne (hF _ hf)) hl).mono ?_
 rintro v w' ⟨rfl, q1, q2⟩
 exact ⟨rfl, hput (TD.ok _ _ _) q1 q2⟩
theorem Duo.Fail (h : Duo w0 w Y (TS g dg rv B) R) {lo : Option Addr} {lc : Nat} {l : List Int} (hz : Zs w lo lc l) (hll : l.length ≤ 1000000000) :
   Ct Tryz.prog 18 #[.pointer (some ⟨dg, 0, none⟩), .slice lo l.length lc] w (fun v w' => Duo w0 w' Y (TS g dg rv ⟨setFails B.D l, B.s, B.owed⟩) R ∧ Chg (Fr w0 Y) w w') := by
 obtain ⟨F, ⟨⟨F1, Fd, h1, h2, h3, h4, h5⟩, hl⟩, hF, hput⟩ := h.left
 refine (Disk.Fail_ok Fd dg rv B.D lo lc l w h2 hz hll).mono ?_
 rintro v w' ⟨q1, q2⟩
 exact hput (TS.ok _ _ _ _) ⟨⟨F1, Grown Fd w w', h1.chg q2 h3, q1, fun k hk hg => hg.elim (h3 k hk) fun c => by have := h1.lt k hk; omega, fun k hk => .inl (h4 k hk), fun k hk => hk.imp (h5 k) id⟩, Grown.lt hl q2.size⟩ (q2.mono h5)
theorem Duo.RFail (h : Duo w0 w Y P (TR g dg rv B)) {lo : Option Addr} {lc : Nat} {l : List Int} (hz : Zs w lo lc l) (hll : l.length ≤ 1000000000) :
   Ct Tryz.prog 19 #[.pointer (some ⟨dg, 0, none⟩), .slice lo l.length lc] w (fun v w' => Duo w0 w' Y P (TR g dg rv ⟨setFails B.D l, B.s, B.owed⟩) ∧ Chg (Fr w0 Y) w w') := by
 obtain ⟨F, ⟨⟨F1, Fd, h1, h2, h3, h4, h5⟩, hl⟩, hF, hput⟩ := h.right
 refine (Disk.RFail_ok Fd dg rv B.D lo lc l w h2 hz hll).mono ?_
 rintro v w' ⟨q1, q2⟩
 exact hput (TR.ok _ _ _ _) ⟨⟨F1, Grown Fd w w', h1.chg q2 h3, q1, fun k hk hg => hg.elim (h3 k hk) fun c => by have := h1.lt k hk; omega, fun k hk => .inl (h4 k hk), fun k hk => hk.imp (h5 k) id⟩, Grown.lt hl q2.size⟩ (q2.mono h5)
theorem Duo.Has (h : Duo w0 w Y (TS g dg rv B) R) {r c : Int} (hr : InI r) (hc : InI c) :
   Ct Tryz.prog 50 #[.pointer (some ⟨g, 0, none⟩), .int .i64 r, .int .i64 c] w (fun v w' => v = .bool (hasL B.s.l r c) ∧ w = w') := by
 obtain ⟨F, ⟨⟨F1, Fd, h1, _⟩, _⟩, _⟩ := h.left
 exact Has_ok F1 g dg B.s B.owed r c w h1 hr hc
theorem Duo.Len (h : Duo w0 w Y (TS g dg rv B) R) :
   Ct Tryz.prog 24 #[.pointer (some ⟨g, 0, none⟩)] w (fun v w' => v = .int .i64 (B.s.l.length : Int) ∧ w = w') := by
 obtain ⟨F, ⟨⟨F1, Fd, h1, _⟩, _⟩, _⟩ := h.left
 exact Len_ok F1 g dg B.s B.owed w h1
theorem Duo.Fetch (h : Duo w0 w Y (TS g dg rv B) R) {name : List UInt8} {a c : Int} (hn : name.length = 32) (ha : InI a) (hc : InI c) (hsl : B.s.l.length ≤ 1000000000) :
   Ct Tryz.prog 25 #[.pointer (some ⟨g, 0, none⟩), keyV name, .int .i64 a, .int .i64 c] w (fun v w' => ∃ ao co, v = .slice ao (fetchL B.s.l name a c).length co ∧ Els (fun k => k < w.heap.size) w' 33 RLet ao co (fetchL B.s.l name a c) ∧ Ext w w') := by
 obtain ⟨F, ⟨⟨F1, Fd, h1, _⟩, _⟩, _⟩ := h.left
 exact Fetch_ok F1 g dg B.s B.owed name a c w h1 hn ha hc hsl
theorem Duo.RHas (h : Duo w0 w Y P (TR g dg rv B)) {r c : Int} (hsl : B.s.l.length ≤ 1000000000) :
   Ct Tryz.prog 51 #[.pointer (some ⟨g, 0, none⟩), .int .i64 r, .int .i64 c] w (fun v w' => v = .bool (hasL B.s.l r c) ∧ w = w') := by
 obtain ⟨F, ⟨⟨F1, Fd, h1, _⟩, _⟩, _⟩ := h.right
 exact RHas_ok F1 g dg B.s B.owed r c w h1 hsl
theorem Duo.RLen (h : Duo w0 w Y P (TR g dg rv B)) :
   Ct Tryz.prog 49 #[.pointer (some ⟨g, 0, none⟩)] w (fun v w' => v = .int .i64 (B.s.l.length : Int) ∧ w = w') := by
 obtain ⟨F, ⟨⟨F1, Fd, h1, _⟩, _⟩, _⟩ := h.right
 exact RLen_ok F1 g dg B.s B.owed w h1
theorem Duo.RFetch (h : Duo w0 w Y P (TR g dg rv B)) {name : List UInt8} {a c : Int} (hn : name.length = 32) (hsl : B.s.l.length ≤ 1000000000) :
   Ct Tryz.prog 53 #[.pointer (some ⟨g, 0, none⟩), keyV name, .int .i64 a, .int .i64 c] w (fun v w' => ∃ ao co, v = .slice ao (fetchL B.s.l name a c).length co ∧ Els (fun k => k < w.heap.size) w' 33 RLet ao co (fetchL B.s.l name a c) ∧ Ext w w') := by
 obtain ⟨F, ⟨⟨F1, Fd, h1, _⟩, _⟩, _⟩ := h.right
 exact RFetch_ok F1 g dg B.s B.owed name a c w h1 hn hsl
theorem Duo.Bytes (h : Duo w0 w Y (TD dg rv D) R) :
   Ct Tryz.prog 22 #[.pointer (some ⟨dg, 0, none⟩)] w (fun v w' => (∃ ao c, v = .slice ao D.bs.length c ∧ Bs w' ao c D.bs ∧ ∀ ad, ao = some ad → w.heap.size ≤ ad.block) ∧ Ext w w') := by
 obtain ⟨F, h1, _⟩ := h.left
 exact Disk.Bytes_ok F dg rv D w h1
theorem Duo.RBytes (h : Duo w0 w Y P (TD dg rv D)) :
   Ct Tryz.prog 23 #[.pointer (some ⟨dg, 0, none⟩)] w (fun v w' => (∃ ao c, v = .slice ao D.bs.length c ∧ Bs w' ao c D.bs ∧ ∀ ad, ao = some ad → w.heap.size ≤ ad.block) ∧ Ext w w') := by
 obtain ⟨F, h1, _⟩ := h.right
 exact Disk.RBytes_ok F dg rv D w h1
theorem Duo.new {dg dc : Nat} {w1 w2 : World} (hx : Ext w0 w) (hY : ∀ k, Y k → k < w.heap.size) (hD : Dk w1 (Grown (fun _ => False) w w1) dg rv D) (hX : Ext w w1) (hR : Dk w2 (Grown (fun _ => False) w1 w2) dc rv' D) (hX2 : Ext w1 w2) : Duo w0 w2 Y (TD dg rv D) (TD dc rv' D) := by
 have h0 := hx.size
 have h1 := hX.size
 have h2 := hX2.size
 refine ⟨⟨_, _, hD.ext hX2, hR, fun k hk hk' => ?_, fun k hk => ?_, fun k hk => ?_⟩, (hx.ext hX).ext hX2, fun k hk => by have := hY k hk; omega, TD.ok _ _ _, TD.ok _ _ _⟩
 rcases hk with hk | hk
 exact hk
 rcases hk' with hk' | hk'
 exact hk'
 omega
 rcases hk with hk | hk
 exact hk.elim
 exact ⟨fun hy => by have := hY k hy; omega, by omega⟩
 rcases hk with hk | hk
 exact hk.elim
 exact ⟨fun hy => by have := hY k hy; omega, by omega⟩
end
theorem scanS_len : ∀ (n : Nat) (s : Bag) (b : List UInt8), b.length ≤ n → (scanS s b).1.l.length ≤ s.l.length + (scanS s b).2 := by
 intro n
 induction n with
 | zero =>
   intro s b h
   have hn : rec1 b = none := by unfold rec1; rw [if_pos (by omega)]
   rw [scanS_stop (.inl hn)]; exact Nat.le_refl _
 | succ n ih =>
   intro s b h
   cases hr : rec1 b with
   | none => rw [scanS_stop (.inl hr)]; exact Nat.le_refl _
   | some x =>
     cases ha : againS s x with
     | none => rw [scanS_stop (.inr ⟨x, hr, ha⟩)]; exact Nat.le_refl _
     | some s' =>
       rw [scanS_step hr ha]
       have h1 := rec1_len hr
       have h2 := ih s' (b.drop (12 + x.length)) (by rw [List.length_drop]; omega)
       have h3 := againS_len ha
       show (scanS s' (b.drop (12 + x.length))).1.l.length ≤ s.l.length + (12 + x.length + (scanS s' (b.drop (12 + x.length))).2)
       omega
theorem open_len (D : Dsk) : (openB D).D.bs.length ≤ D.bs.length ∧ (openB D).s.l.length ≤ D.bs.length := by
 have h1 := scanS_len _ ⟨[], 0⟩ D.bs (Nat.le_refl _)
 have h2 := scanS_le _ ⟨[], 0⟩ D.bs (Nat.le_refl _)
 have h3 : (scanS ⟨[], 0⟩ D.bs).1.l.length ≤ 0 + (scanS ⟨[], 0⟩ D.bs).2 := h1
 unfold openB
 split
 exact ⟨cut_len _ _, by show (scanS ⟨[], 0⟩ D.bs).1.l.length ≤ _; omega⟩
 exact ⟨Nat.le_refl _, by show (scanS ⟨[], 0⟩ D.bs).1.l.length ≤ _; omega⟩
theorem goneS_len (s : Bag) (r : Nat) : (goneS s r).l.length ≤ s.l.length := by
 unfold goneS
 split
 exact Nat.le_refl _
 exact List.length_filter_le _ _
theorem expire_len (B : Box) (r : Int) : (expireB B r).D.bs.length ≤ B.D.bs.length + 21 ∧ (expireB B r).s.l.length ≤ B.s.l.length := by
 have h1 := Law23.keep_len B (2 :: be64 r.toNat)
 have h2 : (2 :: be64 r.toNat).length = 9 := by show (be64 r.toNat).length + 1 = 9; rw [be64_length]
 unfold expireB
 split
 exact ⟨by omega, Nat.le_refl _⟩
 split
 exact ⟨by show (keepB B (2 :: be64 r.toNat)).D.bs.length ≤ _; omega, goneS_len _ _⟩
 rw [keepB_s]; exact ⟨by omega, Nat.le_refl _⟩
theorem crash_len (D : Dsk) (n : Int) : (crashD D n).bs.length ≤ D.bs.length := by
 show (D.bs.take _).length ≤ _
 rw [List.length_take]; omega
end Go.Proofs.YthiijdbiikljpaaGreat.Mbx
namespace Go.Proofs.YthiijdbiikljpaaGreat.Law11
open Go Go.RowKit Go.Proofs.YthiijdbiikljpaaGreat.KW Go.Proofs.YthiijdbiikljpaaGreat.Words Go.Proofs.YthiijdbiikljpaaGreat.Cod
set_option linter.unusedVariables false
set_option linter.unusedSimpArgs false
set_option maxRecDepth 100000
theorem BigBatch_ok (x : BatD) (vi vl : Value) (w : World) (hI : RNums (fun _ => False) w [vi] x.inner) (hL : RSl 33 RLet (fun _ => False) w [vl] x.lets) (hlenI : x.inner.length ≤ 9223372036854775807) (hlen : x.lets.length ≤ 9223372036854775807) :
   Ct Tryz.prog 11 #[.agg (batC x vi vl).toArray] w (fun v w' => ∃ b, v = .bool b ∧ (b = false → x.inner.length ≤ 30 ∧ x.lets.length ≤ 30 ∧ ∀ p ∈ x.lets, p.2.length ≤ 300) ∧ Ext w w') := by
 refine Ct.enter [(0, .agg (batC x vi vl).toArray)] Tryz.func11 rfl rfl rfl rfl ?_
 obtain ⟨ao, c, rfl, hE⟩ := hL.form
 obtain ⟨aI, cI, rfl, hU, _, hUl⟩ := hI.form
 refine C.seq (C.region ?_)
 refine W.box (batC x (.slice aI x.inner.length cI) (.slice ao x.lets.length c)) rfl rfl rfl ?_
 intro g1 wb hg1 hXb hB1
 have hE1 := hE.ext rLet hXb
 refine W.assign rfl rfl (W.nil (At.thenCode (C.seq (C.seq (C.region (W.assign rfl rfl (W.nil (At.thenCode (C.block ?_)))))))))
 refine C.loop (X := Nat) (fun x_ => [(1, .pointer (some ⟨g1, 0, none⟩)), (3, .int .i64 (x_ : Int))]) (fun x_ w1 => wb = w1 ∧ x_ ≤ x.lets.length ∧ ∀ p ∈ x.lets.take x_, p.2.length ≤ 300) (fun x_ => x.lets.length - x_) (0) (sc rfl (sc rfl (Sub.nil))) ?start1 ?_
 case start1 =>
   show wb = _ ∧ (0) ≤ x.lets.length ∧ ∀ p ∈ x.lets.take (0), p.2.length ≤ 300
   exact ⟨rfl, by omega, by simp⟩
 rintro i w1 hI_
 replace hI_ : wb = w1 ∧ i ≤ x.lets.length ∧ ∀ p ∈ x.lets.take i, p.2.length ≤ 300 := hI_
 obtain ⟨rfl, hi, hsm⟩ := hI_
 refine C.weaken (l' := [(1, .pointer (some ⟨g1, 0, none⟩)), (3, .int .i64 (i : Int))]) (sc rfl (sc rfl (Sub.nil))) ?_
 refine C.seq (C.seq (C.region (W.move rfl rfl (W.fieldB (off := 3) (size := 1) (t := 37) (Fld.of (by kernel_rfl)) rfl rfl rfl ?_))))
 refine W.loadB rfl Tryz.underlying37 rfl (by assumption) rfl rfl ?_
 refine W.lenS rfl Tryz.underlying37 rfl (W.lssI rfl rfl rfl (W.nil (At.thenCode ?_)))
 refine C.condD rfl (fun c8 => ?_) (fun c8 => ?_)
 have hlt : i < x.lets.length := by omega
 refine C.skip (At.thenCode (C.seq (C.block (C.seq (C.region (W.fieldB (off := 3) (size := 1) (t := 37) (Fld.of (by kernel_rfl)) rfl rfl rfl ?_))))))
 refine W.loadB rfl Tryz.underlying37 rfl (by assumption) rfl rfl ?_
 refine W.move rfl rfl ?_
 refine W.indexE ELet Tryz.underlying37 rfl hE1 rfl hlt rfl ?_
 rintro ad14 cs14 hc14 ⟨v14, rfl, hR14, hx14⟩ _
 obtain ⟨a14, c14, rfl, hs14, _⟩ := hR14.form
 refine W.fieldAddr (off := 32) (size := 1) (t := 22) (Fld.of (by kernel_rfl)) rfl rfl rfl ?_
 refine W.loadC (v := .slice a14 x.lets[i].2.length c14) hc14 (by rw [List.getElem?_append_right (by rw [List.length_map]; omega), List.length_map, hx14]; rfl) rfl Tryz.underlying22 rfl rfl ?_
 refine W.lenS rfl Tryz.underlying22 rfl (W.gtrI rfl rfl rfl (W.nil (At.thenCode ?_)))
 refine C.condD rfl (fun c18 => ?_) (fun c18 => ?_)
 refine C.seq (C.region (W.assign rfl rfl (W.nil (At.thenCode (C.ret (At.blockRet (At.thenRet (At.thenRet (At.blockRet (At.thenRet ?_))))))))))
 refine At.ret1 Tryz.results11 rfl ?_
 first
 | exact ⟨true, rfl, fun h => (by cases h), hXb⟩
 | exact ⟨_, rfl, fun h => (by have := of_decide_eq_false h; exact ⟨by omega, by omega, hsm⟩), hXb⟩
 refine C.skip (At.blockNormal (At.thenCode (C.region (W.move rfl rfl ?_))))
 refine W.addI rfl rfl (by omega) rfl ?_
 refine W.assign rfl rfl (W.nil ?_)
 refine At.thenRound (i + 1) (sc rfl (sc (look_eq rfl (iV (by omega))) (Sub.nil))) (show wb = _ ∧ (i + 1) ≤ x.lets.length ∧ ∀ p ∈ x.lets.take (i + 1), p.2.length ≤ 300 from ?_) (show x.lets.length - (i + 1) < x.lets.length - i from ?_)
 refine ⟨rfl, by omega, ?_⟩
 intro p hp
 rw [List.take_succ_eq_append_getElem hlt] at hp
 rcases List.mem_append.1 hp with h | h
 exact hsm p h
 obtain rfl := List.mem_singleton.1 h
 omega
 omega
 obtain rfl : i = x.lets.length := by omega
 rw [List.take_length] at hsm
 refine C.exit (At.thenExit (At.thenExit (At.blockSelf (At.thenCode (C.seq (C.region (W.fieldB (off := 3) (size := 1) (t := 37) (Fld.of (by kernel_rfl)) rfl rfl rfl ?_)))))))
 refine W.loadB rfl Tryz.underlying37 rfl (by assumption) rfl rfl ?_
 refine W.lenS rfl Tryz.underlying37 rfl (W.gtrI rfl rfl rfl (W.move rfl rfl ?_))
 refine W.splitD (fun g23 => ?_) (fun g23 => ?_)
 refine W.skips rfl rfl rfl rfl rfl rfl (W.skips rfl rfl rfl rfl rfl rfl (W.skips rfl rfl rfl rfl rfl rfl (W.skips rfl rfl rfl rfl rfl rfl (W.pickT rfl rfl rfl (W.assign rfl rfl (W.nil (At.thenCode (C.ret ?_))))))))
 refine At.ret1 Tryz.results11 rfl ?_
 first
 | exact ⟨true, rfl, fun h => (by cases h), hXb⟩
 | exact ⟨_, rfl, fun h => (by have := of_decide_eq_false h; exact ⟨by omega, by omega, hsm⟩), hXb⟩
 refine W.wants rfl rfl rfl rfl (W.fieldB (off := 2) (size := 1) (t := 36) (Fld.of (by kernel_rfl)) rfl rfl rfl (W.wants rfl rfl rfl rfl ?_))
 refine W.loadB rfl Tryz.underlying36 rfl (by assumption) rfl rfl ?_
 refine W.wants rfl rfl rfl rfl (W.lenS rfl Tryz.underlying36 rfl (W.wants rfl rfl rfl rfl (W.gtrI rfl rfl rfl (W.pickF rfl rfl rfl (W.assign rfl rfl (W.nil (At.thenCode (C.ret ?_))))))))
 refine At.ret1 Tryz.results11 rfl ?_
 first
 | exact ⟨true, rfl, fun h => (by cases h), hXb⟩
 | exact ⟨_, rfl, fun h => (by have := of_decide_eq_false h; exact ⟨by omega, by omega, hsm⟩), hXb⟩
end Go.Proofs.YthiijdbiikljpaaGreat.Law11
