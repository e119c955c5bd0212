/- The reference's reader. -/
import Derived.Test.YtkjmllohbohliaaCodV
namespace Go.Proofs.Ytkjmllohbohliaa.Cod
open Go Go.RowKit Go.Proofs.Ytkjmllohbohliaa.KW Go.Proofs.Ytkjmllohbohliaa.Words Go.Proofs.Ytkjmllohbohliaa.Grp
set_option linter.unusedVariables false
set_option linter.unusedSimpArgs false
set_option maxRecDepth 100000
theorem Rfail_ok (g : Nat) (q : Option Addr) (c : Nat) (b : List UInt8) (s : St) (e0 : Nat) (w : World) (h : Rdr w g q c b s) (h0 : e0 ≠ 0) (h1 : e0 ≤ 100) :
    Ct Try.prog 93 #[.pointer (some ⟨g, 0, none⟩), .int .i64 (e0 : Int)] w (fun v w' => v = .tuple #[] ∧ RdP w g q c b (failS e0 s) w') := by
  refine Ct.enter [(0, .pointer (some ⟨g, 0, none⟩)), (1, .int .i64 (e0 : Int))] Try.func93 rfl rfl rfl rfl ?_
  obtain ⟨p, e, hB, hp, he, rfl⟩ := h.out
  have hfc := failS_cases e0 e (b.drop p) h0
  refine C.seq ?_
  refine C.region ?_
  refine W.move rfl rfl ?_
  refine W.nilCheck rfl rfl ?_
  refine W.fieldB (off := 2) (size := 1) (t := 3) (Fld.of (by kernel_rfl)) rfl rfl rfl ?_
  refine W.loadB rfl Try.underlying3 rfl (by assumption) rfl rfl ?_
  refine W.eqlI rfl rfl rfl ?_
  refine W.nil ?_
  refine At.thenCode ?_
  first | refine C.condD rfl (fun c8 => ?_) (fun c8 => ?_) | refine C.cond rfl (fun c8 => ?_) (fun c8 => ?_)
  · refine C.region ?_
    refine W.move rfl rfl ?_
    refine W.move rfl rfl ?_
    refine W.nilCheck rfl rfl ?_
    refine W.fieldB (off := 2) (size := 1) (t := 3) (Fld.of (by kernel_rfl)) rfl rfl rfl ?_
    refine W.store1 rfl rfl rfl hB (by simp) (by kernel_rfl) ?_
    intro w1 hc1 hB1
    refine W.nil ?_
    refine At.end0 Try.results93 ?_
    first
    | (refine ⟨rfl, ?_⟩
       rw [hfc, if_pos (by omega)]
       exact h.set hc1 hB1 hp h1)
    | (refine ⟨rfl, ?_⟩
       rw [hfc, if_neg (by omega)]
       exact h.refl)
  · refine C.skip ?_
    refine At.end0 Try.results93 ?_
    first
    | (refine ⟨rfl, ?_⟩
       rw [hfc, if_pos (by omega)]
       exact h.set hc1 hB1 hp h1)
    | (refine ⟨rfl, ?_⟩
       rw [hfc, if_neg (by omega)]
       exact h.refl)
theorem takeA (g : Nat) (q : Option Addr) (c : Nat) (b : List UInt8) (p e n : Nat) (w : World) (h : Rdr w g q c b (e, [])) (hB : Bk w g [.slice q b.length c, .int .i64 (p : Int), .int .i64 (e : Int)]) (he : e ≠ 0) :
    Ct Try.prog 82 #[.pointer (some ⟨g, 0, none⟩), .int .i64 (n : Int)] w (TakeP g q c b w ([], (e, []))) := by
  refine Ct.enter [(0, .pointer (some ⟨g, 0, none⟩)), (1, .int .i64 (n : Int))] Try.func82 rfl rfl rfl rfl ?_
  refine C.seq ?_
  refine C.region ?_
  refine W.assign rfl rfl ?_
  refine W.nil ?_
  refine At.thenCode ?_
  refine C.seq ?_
  refine C.seq ?_
  refine C.region ?_
  refine W.move rfl rfl ?_
  refine W.nilCheck rfl rfl ?_
  refine W.fieldB (off := 2) (size := 1) (t := 3) (Fld.of (by kernel_rfl)) rfl rfl rfl ?_
  refine W.loadB rfl Try.underlying3 rfl (by assumption) rfl rfl ?_
  refine W.neqI rfl rfl rfl ?_
  refine W.eqv (bT (by omega)) ?_
  refine W.nil ?_
  refine At.thenCode ?_
  refine C.condT rfl ?_
  refine C.seq ?_
  refine C.region ?_
  refine W.assign rfl rfl ?_
  refine W.nil ?_
  refine At.thenCode ?_
  refine C.ret ?_
  refine At.thenRet ?_
  refine At.ret1 Try.results82 rfl ?_
  exact ⟨none, 0, rfl, NewB.nil _ _, h.refl⟩
theorem takeC (g : Nat) (q : Option Addr) (c : Nat) (b : List UInt8) (p n : Nat) (w : World) (h : Rdr w g q c b (0, b.drop p)) (hB : Bk w g [.slice q b.length c, .int .i64 (p : Int), .int .i64 0]) (hp : p ≤ b.length) (hn : n ≤ 1099511627776) (hlen : b.length ≤ 1099511627776) (hs : ¬ p + n ≤ b.length) :
    Ct Try.prog 82 #[.pointer (some ⟨g, 0, none⟩), .int .i64 (n : Int)] w (TakeP g q c b w ([], (4, []))) := by
  refine Ct.enter [(0, .pointer (some ⟨g, 0, none⟩)), (1, .int .i64 (n : Int))] Try.func82 rfl rfl rfl rfl ?_
  refine C.seq ?_
  refine C.region ?_
  refine W.assign rfl rfl ?_
  refine W.nil ?_
  refine At.thenCode ?_
  refine C.seq ?_
  refine C.seq ?_
  refine C.region ?_
  refine W.move rfl rfl ?_
  refine W.nilCheck rfl rfl ?_
  refine W.fieldB (off := 2) (size := 1) (t := 3) (Fld.of (by kernel_rfl)) rfl rfl rfl ?_
  refine W.loadB rfl Try.underlying3 rfl (by assumption) rfl rfl ?_
  refine W.neqI rfl rfl rfl ?_
  refine W.eqv (bF (by omega)) ?_
  refine W.nil ?_
  refine At.thenCode ?_
  refine C.condF rfl ?_
  refine C.skip ?_
  refine At.thenCode ?_
  refine C.seq ?_
  refine C.seq ?_
  refine C.regionAny 12 ((fun v w => v = .pointer (some ⟨g, 0, none⟩)) :: (fun v w => v = .pointer (some ⟨g, 0, none⟩)) :: (fun v w => v = .pointer (some ⟨g, 0, none⟩)) :: (fun v w => v = .slice q b.length c) :: (fun v w => v = .int .i64 (b.length : Int)) :: (fun v w => v = .pointer (some ⟨g, 0, none⟩)) :: (fun v w => v = .pointer (some ⟨g, 0, none⟩)) :: (fun v w => v = .pointer (some ⟨g, 1, none⟩)) :: (fun v w => v = .int .i64 (p : Int)) :: (fun v w => v = .int .i64 ((b.length : Int) - (p : Int))) :: (fun v w => v = .int .i64 (n : Int)) :: (fun v w => v = .bool true) :: []) [(0, .pointer (some ⟨g, 0, none⟩)), (1, .int .i64 (n : Int))] [] (Sub.cons (rfl) (Sub.cons (rfl) (Sub.nil))) (Sub.nil) (Sub.cons (rfl) (Sub.cons (rfl) (Sub.nil))) (by kernel_rfl) rfl rfl rfl (And.intro (fun _ _ _ h _ => h) (And.intro (fun _ _ _ h _ => h) (And.intro (fun _ _ _ h _ => h) (And.intro (fun _ _ _ h _ => h) (And.intro (fun _ _ _ h _ => h) (And.intro (fun _ _ _ h _ => h) (And.intro (fun _ _ _ h _ => h) (And.intro (fun _ _ _ h _ => h) (And.intro (fun _ _ _ h _ => h) (And.intro (fun _ _ _ h _ => h) (And.intro (fun _ _ _ h _ => h) (And.intro (fun _ _ _ h _ => h) (trivial))))))))))))) ?_ ?_
  · refine And.intro ?_ ?_
    · intro L_ w1 hX_ hs_ hf_ hd_
      refine W.step [(0, _)] (Sub.cons (hs_ _ _ rfl) (Sub.refl _)) ?_
      refine W.move rfl rfl ?_
      refine W.nil ?_
      exact At.step (Ext.refl _) rfl
    refine And.intro ?_ ?_
    · intro L_ w1 hX_ hs_ hf_ hd_
      obtain ⟨v0, e0, r0⟩ := hd_ 0 rfl
      obtain rfl : (.pointer (some ⟨g, 0, none⟩) : Value) = v0 := Eq.symm r0
      refine W.step [(10, _)] (Sub.cons (e0 _ rfl) (Sub.refl _)) ?_
      refine W.nilCheck rfl rfl ?_
      refine W.nil ?_
      exact At.step (Ext.refl _) rfl
    refine And.intro ?_ ?_
    · intro L_ w1 hX_ hs_ hf_ hd_
      obtain ⟨v1, e1, r1⟩ := hd_ 1 rfl
      obtain rfl : (.pointer (some ⟨g, 0, none⟩) : Value) = v1 := Eq.symm r1
      refine W.step [(11, _)] (Sub.cons (e1 _ rfl) (Sub.refl _)) ?_
      refine W.fieldB (off := 0) (size := 1) (t := 24) (Fld.of (by kernel_rfl)) rfl rfl rfl ?_
      refine W.nil ?_
      exact At.step (Ext.refl _) rfl
    refine And.intro ?_ ?_
    · intro L_ w1 hX_ hs_ hf_ hd_
      obtain ⟨v2, e2, r2⟩ := hd_ 2 rfl
      obtain rfl : (.pointer (some ⟨g, 0, none⟩) : Value) = v2 := Eq.symm r2
      refine W.step [(12, _)] (Sub.cons (e2 _ rfl) (Sub.refl _)) ?_
      refine W.loadB rfl Try.underlying24 rfl (by first | exact Bk.ext (by assumption) hX_ | exact GP.bkOld hX_ (by assumption) (by omega) (by omega) | exact Bk.chg (by assumption) hX_.1 (by omega) | exact Bk.chg (by assumption) hX_ (by rintro ⟨q_, h1_, h2_, h3_⟩; omega)) rfl rfl ?_
      refine W.nil ?_
      exact At.step (Ext.refl _) rfl
    refine And.intro ?_ ?_
    · intro L_ w1 hX_ hs_ hf_ hd_
      obtain ⟨v3, e3, r3⟩ := hd_ 3 rfl
      obtain rfl : (.slice q b.length c : Value) = v3 := Eq.symm r3
      refine W.step [(13, _)] (Sub.cons (e3 _ rfl) (Sub.refl _)) ?_
      refine W.lenS rfl Try.underlying24 rfl ?_
      refine W.nil ?_
      exact At.step (Ext.refl _) rfl
    refine And.intro ?_ ?_
    · intro L_ w1 hX_ hs_ hf_ hd_
      refine W.step [(0, _)] (Sub.cons (hs_ _ _ rfl) (Sub.refl _)) ?_
      refine W.move rfl rfl ?_
      refine W.nil ?_
      exact At.step (Ext.refl _) rfl
    refine And.intro ?_ ?_
    · intro L_ w1 hX_ hs_ hf_ hd_
      obtain ⟨v5, e5, r5⟩ := hd_ 5 rfl
      obtain rfl : (.pointer (some ⟨g, 0, none⟩) : Value) = v5 := Eq.symm r5
      refine W.step [(15, _)] (Sub.cons (e5 _ rfl) (Sub.refl _)) ?_
      refine W.nilCheck rfl rfl ?_
      refine W.nil ?_
      exact At.step (Ext.refl _) rfl
    refine And.intro ?_ ?_
    · intro L_ w1 hX_ hs_ hf_ hd_
      obtain ⟨v6, e6, r6⟩ := hd_ 6 rfl
      obtain rfl : (.pointer (some ⟨g, 0, none⟩) : Value) = v6 := Eq.symm r6
      refine W.step [(16, _)] (Sub.cons (e6 _ rfl) (Sub.refl _)) ?_
      refine W.fieldB (off := 1) (size := 1) (t := 3) (Fld.of (by kernel_rfl)) rfl rfl rfl ?_
      refine W.nil ?_
      exact At.step (Ext.refl _) rfl
    refine And.intro ?_ ?_
    · intro L_ w1 hX_ hs_ hf_ hd_
      obtain ⟨v7, e7, r7⟩ := hd_ 7 rfl
      obtain rfl : (.pointer (some ⟨g, 1, none⟩) : Value) = v7 := Eq.symm r7
      refine W.step [(17, _)] (Sub.cons (e7 _ rfl) (Sub.refl _)) ?_
      refine W.loadB rfl Try.underlying3 rfl (by first | exact Bk.ext (by assumption) hX_ | exact GP.bkOld hX_ (by assumption) (by omega) (by omega) | exact Bk.chg (by assumption) hX_.1 (by omega) | exact Bk.chg (by assumption) hX_ (by rintro ⟨q_, h1_, h2_, h3_⟩; omega)) rfl rfl ?_
      refine W.nil ?_
      exact At.step (Ext.refl _) rfl
    refine And.intro ?_ ?_
    · intro L_ w1 hX_ hs_ hf_ hd_
      obtain ⟨v4, e4, r4⟩ := hd_ 4 rfl
      obtain rfl : (.int .i64 (b.length : Int) : Value) = v4 := Eq.symm r4
      obtain ⟨v8, e8, r8⟩ := hd_ 8 rfl
      obtain rfl : (.int .i64 (p : Int) : Value) = v8 := Eq.symm r8
      refine W.step [(14, _), (18, _)] (Sub.cons (e4 _ rfl) (Sub.cons (e8 _ rfl) (Sub.refl _))) ?_
      first | refine W.subI rfl rfl (by omega) rfl ?_ | refine W.subW rfl rfl rfl ?_
      refine W.nil ?_
      exact At.step (Ext.refl _) rfl
    refine And.intro ?_ ?_
    · intro L_ w1 hX_ hs_ hf_ hd_
      refine W.step [(1, _)] (Sub.cons (hs_ _ _ rfl) (Sub.refl _)) ?_
      refine W.move rfl rfl ?_
      refine W.nil ?_
      exact At.step (Ext.refl _) rfl
    refine And.intro ?_ ?_
    · intro L_ w1 hX_ hs_ hf_ hd_
      obtain ⟨v9, e9, r9⟩ := hd_ 9 rfl
      obtain rfl : (.int .i64 ((b.length : Int) - (p : Int)) : Value) = v9 := Eq.symm r9
      obtain ⟨v10, e10, r10⟩ := hd_ 10 rfl
      obtain rfl : (.int .i64 (n : Int) : Value) = v10 := Eq.symm r10
      refine W.step [(19, _), (20, _)] (Sub.cons (e9 _ rfl) (Sub.cons (e10 _ rfl) (Sub.refl _))) ?_
      refine W.lssI rfl rfl rfl ?_
      refine W.eqv (bT (by omega)) ?_
      refine W.nil ?_
      exact At.step (Ext.refl _) rfl
    exact trivial
  · intro L_ w1 hX3 hs_ hv_
    obtain ⟨v11, e11, r11⟩ := hv_ 11 (by decide)
    obtain rfl : (.bool true : Value) = v11 := Eq.symm r11
    refine W.weaken (l' := [(21, _), (0, _), (1, _)]) (Sub.cons (e11 _ rfl) (Sub.cons (hs_ _ _ rfl) (Sub.cons (hs_ _ _ rfl) (Sub.nil)))) ?_
    refine W.nil ?_
    refine At.thenCode ?_
    refine C.condT rfl ?_
    refine C.seq ?_
    refine C.region ?_
    refine W.move rfl rfl ?_
    have h1 := h.ext hX3
    refine W.call Try.call93 rfl (Cod.Rfail_ok _ _ _ _ _ _ _ (by assumption) (by decide) (by decide)) rfl ?_
    rintro v23 w23 ⟨rfl, hP23⟩
    refine W.nil ?_
    refine At.thenCode ?_
    refine C.seq ?_
    refine C.region ?_
    refine W.assign rfl rfl ?_
    refine W.nil ?_
    refine At.thenCode ?_
    refine C.ret ?_
    refine At.thenRet ?_
    refine At.ret1 Try.results82 rfl ?_
    exact ⟨none, 0, rfl, NewB.nil _ _, ⟨hP23.rdr, (Chg.mono hX3 fun k hk => hk.elim).trans hP23.chg⟩⟩
theorem takeB (g : Nat) (q : Option Addr) (c : Nat) (b : List UInt8) (p n : Nat) (w : World) (h : Rdr w g q c b (0, b.drop p)) (hB : Bk w g [.slice q b.length c, .int .i64 (p : Int), .int .i64 0]) (hp : p ≤ b.length) (hn : n ≤ 1099511627776) (hlen : b.length ≤ 1099511627776) (hs : p + n ≤ b.length) :
    Ct Try.prog 82 #[.pointer (some ⟨g, 0, none⟩), .int .i64 (n : Int)] w (TakeP g q c b w ((b.drop p).take n, (0, b.drop (p + n)))) := by
  refine Ct.enter [(0, .pointer (some ⟨g, 0, none⟩)), (1, .int .i64 (n : Int))] Try.func82 rfl rfl rfl rfl ?_
  obtain ⟨xs, hxs⟩ : ∃ xs, xs = (b.drop p).take n := ⟨_, rfl⟩
  have hxl : xs.length = n := by rw [hxs, List.length_take, List.length_drop]; omega
  rw [← hxs]
  refine C.seq ?_
  refine C.region ?_
  refine W.assign rfl rfl ?_
  refine W.nil ?_
  refine At.thenCode ?_
  refine C.seq ?_
  refine C.seq ?_
  refine C.region ?_
  refine W.move rfl rfl ?_
  refine W.nilCheck rfl rfl ?_
  refine W.fieldB (off := 2) (size := 1) (t := 3) (Fld.of (by kernel_rfl)) rfl rfl rfl ?_
  refine W.loadB rfl Try.underlying3 rfl (by assumption) rfl rfl ?_
  refine W.neqI rfl rfl rfl ?_
  refine W.eqv (bF (by omega)) ?_
  refine W.nil ?_
  refine At.thenCode ?_
  refine C.condF rfl ?_
  refine C.skip ?_
  refine At.thenCode ?_
  refine C.seq ?_
  refine C.seq ?_
  refine C.regionAny 12 ((fun v w => v = .pointer (some ⟨g, 0, none⟩)) :: (fun v w => v = .pointer (some ⟨g, 0, none⟩)) :: (fun v w => v = .pointer (some ⟨g, 0, none⟩)) :: (fun v w => v = .slice q b.length c) :: (fun v w => v = .int .i64 (b.length : Int)) :: (fun v w => v = .pointer (some ⟨g, 0, none⟩)) :: (fun v w => v = .pointer (some ⟨g, 0, none⟩)) :: (fun v w => v = .pointer (some ⟨g, 1, none⟩)) :: (fun v w => v = .int .i64 (p : Int)) :: (fun v w => v = .int .i64 ((b.length : Int) - (p : Int))) :: (fun v w => v = .int .i64 (n : Int)) :: (fun v w => v = .bool false) :: []) [(0, .pointer (some ⟨g, 0, none⟩)), (1, .int .i64 (n : Int))] [] (Sub.cons (rfl) (Sub.cons (rfl) (Sub.nil))) (Sub.nil) (Sub.cons (rfl) (Sub.cons (rfl) (Sub.nil))) (by kernel_rfl) rfl rfl rfl (And.intro (fun _ _ _ h _ => h) (And.intro (fun _ _ _ h _ => h) (And.intro (fun _ _ _ h _ => h) (And.intro (fun _ _ _ h _ => h) (And.intro (fun _ _ _ h _ => h) (And.intro (fun _ _ _ h _ => h) (And.intro (fun _ _ _ h _ => h) (And.intro (fun _ _ _ h _ => h) (And.intro (fun _ _ _ h _ => h) (And.intro (fun _ _ _ h _ => h) (And.intro (fun _ _ _ h _ => h) (And.intro (fun _ _ _ h _ => h) (trivial))))))))))))) ?_ ?_
  · refine And.intro ?_ ?_
    · intro L_ w1 hX_ hs_ hf_ hd_
      refine W.step [(0, _)] (Sub.cons (hs_ _ _ rfl) (Sub.refl _)) ?_
      refine W.move rfl rfl ?_
      refine W.nil ?_
      exact At.step (Ext.refl _) rfl
    refine And.intro ?_ ?_
    · intro L_ w1 hX_ hs_ hf_ hd_
      obtain ⟨v0, e0, r0⟩ := hd_ 0 rfl
      obtain rfl : (.pointer (some ⟨g, 0, none⟩) : Value) = v0 := Eq.symm r0
      refine W.step [(10, _)] (Sub.cons (e0 _ rfl) (Sub.refl _)) ?_
      refine W.nilCheck rfl rfl ?_
      refine W.nil ?_
      exact At.step (Ext.refl _) rfl
    refine And.intro ?_ ?_
    · intro L_ w1 hX_ hs_ hf_ hd_
      obtain ⟨v1, e1, r1⟩ := hd_ 1 rfl
      obtain rfl : (.pointer (some ⟨g, 0, none⟩) : Value) = v1 := Eq.symm r1
      refine W.step [(11, _)] (Sub.cons (e1 _ rfl) (Sub.refl _)) ?_
      refine W.fieldB (off := 0) (size := 1) (t := 24) (Fld.of (by kernel_rfl)) rfl rfl rfl ?_
      refine W.nil ?_
      exact At.step (Ext.refl _) rfl
    refine And.intro ?_ ?_
    · intro L_ w1 hX_ hs_ hf_ hd_
      obtain ⟨v2, e2, r2⟩ := hd_ 2 rfl
      obtain rfl : (.pointer (some ⟨g, 0, none⟩) : Value) = v2 := Eq.symm r2
      refine W.step [(12, _)] (Sub.cons (e2 _ rfl) (Sub.refl _)) ?_
      refine W.loadB rfl Try.underlying24 rfl (by first | exact Bk.ext (by assumption) hX_ | exact GP.bkOld hX_ (by assumption) (by omega) (by omega) | exact Bk.chg (by assumption) hX_.1 (by omega) | exact Bk.chg (by assumption) hX_ (by rintro ⟨q_, h1_, h2_, h3_⟩; omega)) rfl rfl ?_
      refine W.nil ?_
      exact At.step (Ext.refl _) rfl
    refine And.intro ?_ ?_
    · intro L_ w1 hX_ hs_ hf_ hd_
      obtain ⟨v3, e3, r3⟩ := hd_ 3 rfl
      obtain rfl : (.slice q b.length c : Value) = v3 := Eq.symm r3
      refine W.step [(13, _)] (Sub.cons (e3 _ rfl) (Sub.refl _)) ?_
      refine W.lenS rfl Try.underlying24 rfl ?_
      refine W.nil ?_
      exact At.step (Ext.refl _) rfl
    refine And.intro ?_ ?_
    · intro L_ w1 hX_ hs_ hf_ hd_
      refine W.step [(0, _)] (Sub.cons (hs_ _ _ rfl) (Sub.refl _)) ?_
      refine W.move rfl rfl ?_
      refine W.nil ?_
      exact At.step (Ext.refl _) rfl
    refine And.intro ?_ ?_
    · intro L_ w1 hX_ hs_ hf_ hd_
      obtain ⟨v5, e5, r5⟩ := hd_ 5 rfl
      obtain rfl : (.pointer (some ⟨g, 0, none⟩) : Value) = v5 := Eq.symm r5
      refine W.step [(15, _)] (Sub.cons (e5 _ rfl) (Sub.refl _)) ?_
      refine W.nilCheck rfl rfl ?_
      refine W.nil ?_
      exact At.step (Ext.refl _) rfl
    refine And.intro ?_ ?_
    · intro L_ w1 hX_ hs_ hf_ hd_
      obtain ⟨v6, e6, r6⟩ := hd_ 6 rfl
      obtain rfl : (.pointer (some ⟨g, 0, none⟩) : Value) = v6 := Eq.symm r6
      refine W.step [(16, _)] (Sub.cons (e6 _ rfl) (Sub.refl _)) ?_
      refine W.fieldB (off := 1) (size := 1) (t := 3) (Fld.of (by kernel_rfl)) rfl rfl rfl ?_
      refine W.nil ?_
      exact At.step (Ext.refl _) rfl
    refine And.intro ?_ ?_
    · intro L_ w1 hX_ hs_ hf_ hd_
      obtain ⟨v7, e7, r7⟩ := hd_ 7 rfl
      obtain rfl : (.pointer (some ⟨g, 1, none⟩) : Value) = v7 := Eq.symm r7
      refine W.step [(17, _)] (Sub.cons (e7 _ rfl) (Sub.refl _)) ?_
      refine W.loadB rfl Try.underlying3 rfl (by first | exact Bk.ext (by assumption) hX_ | exact GP.bkOld hX_ (by assumption) (by omega) (by omega) | exact Bk.chg (by assumption) hX_.1 (by omega) | exact Bk.chg (by assumption) hX_ (by rintro ⟨q_, h1_, h2_, h3_⟩; omega)) rfl rfl ?_
      refine W.nil ?_
      exact At.step (Ext.refl _) rfl
    refine And.intro ?_ ?_
    · intro L_ w1 hX_ hs_ hf_ hd_
      obtain ⟨v4, e4, r4⟩ := hd_ 4 rfl
      obtain rfl : (.int .i64 (b.length : Int) : Value) = v4 := Eq.symm r4
      obtain ⟨v8, e8, r8⟩ := hd_ 8 rfl
      obtain rfl : (.int .i64 (p : Int) : Value) = v8 := Eq.symm r8
      refine W.step [(14, _), (18, _)] (Sub.cons (e4 _ rfl) (Sub.cons (e8 _ rfl) (Sub.refl _))) ?_
      first | refine W.subI rfl rfl (by omega) rfl ?_ | refine W.subW rfl rfl rfl ?_
      refine W.nil ?_
      exact At.step (Ext.refl _) rfl
    refine And.intro ?_ ?_
    · intro L_ w1 hX_ hs_ hf_ hd_
      refine W.step [(1, _)] (Sub.cons (hs_ _ _ rfl) (Sub.refl _)) ?_
      refine W.move rfl rfl ?_
      refine W.nil ?_
      exact At.step (Ext.refl _) rfl
    refine And.intro ?_ ?_
    · intro L_ w1 hX_ hs_ hf_ hd_
      obtain ⟨v9, e9, r9⟩ := hd_ 9 rfl
      obtain rfl : (.int .i64 ((b.length : Int) - (p : Int)) : Value) = v9 := Eq.symm r9
      obtain ⟨v10, e10, r10⟩ := hd_ 10 rfl
      obtain rfl : (.int .i64 (n : Int) : Value) = v10 := Eq.symm r10
      refine W.step [(19, _), (20, _)] (Sub.cons (e9 _ rfl) (Sub.cons (e10 _ rfl) (Sub.refl _))) ?_
      refine W.lssI rfl rfl rfl ?_
      refine W.eqv (bF (by omega)) ?_
      refine W.nil ?_
      exact At.step (Ext.refl _) rfl
    exact trivial
  · intro L_ w1 hX3 hs_ hv_
    obtain ⟨v11, e11, r11⟩ := hv_ 11 (by decide)
    obtain rfl : (.bool false : Value) = v11 := Eq.symm r11
    refine W.weaken (l' := [(21, _), (0, _), (1, _)]) (Sub.cons (e11 _ rfl) (Sub.cons (hs_ _ _ rfl) (Sub.cons (hs_ _ _ rfl) (Sub.nil)))) ?_
    refine W.nil ?_
    refine At.thenCode ?_
    refine C.condF rfl ?_
    refine C.skip ?_
    refine At.thenCode ?_
    refine C.seq ?_
    refine C.region ?_
    refine W.move rfl rfl ?_
    refine W.move rfl rfl ?_
    refine W.nilCheck rfl rfl ?_
    refine W.fieldB (off := 1) (size := 1) (t := 3) (Fld.of (by kernel_rfl)) rfl rfl rfl ?_
    have h1 := h.ext hX3
    have hB1 := hB.ext hX3
    refine W.loadB rfl Try.underlying3 rfl (by assumption) rfl rfl ?_
    refine W.move rfl rfl ?_
    first | refine W.addI rfl rfl (by omega) rfl ?_ | refine W.addW rfl rfl rfl ?_
    refine W.nilCheck rfl rfl ?_
    refine W.fieldB (off := 1) (size := 1) (t := 3) (Fld.of (by kernel_rfl)) rfl rfl rfl ?_
    refine W.store1 rfl rfl rfl hB1 (by simp) (by kernel_rfl) ?_
    intro w5 hc5 hB5
    have hB5 : Bk w5 g [.slice q b.length c, .int .i64 ((p + n : Nat) : Int), .int .i64 0] := by simpa using hB5
    have hP5 := h1.set (p := p + n) (e := 0) hc5 hB5 (by omega) (by decide)
    refine W.nil ?_
    refine At.thenCode ?_
    refine C.seq ?_
    refine C.regionAny 15 ((fun v w => v = .pointer (some ⟨g, 0, none⟩)) :: (fun v w => v = .pointer (some ⟨g, 0, none⟩)) :: (fun v w => v = .pointer (some ⟨g, 0, none⟩)) :: (fun v w => v = .slice q b.length c) :: (fun v w => v = .pointer (some ⟨g, 0, none⟩)) :: (fun v w => v = .pointer (some ⟨g, 0, none⟩)) :: (fun v w => v = .pointer (some ⟨g, 1, none⟩)) :: (fun v w => v = .int .i64 ((p + n : Nat) : Int)) :: (fun v w => v = .int .i64 (n : Int)) :: (fun v w => v = .int .i64 (((p + n : Nat) : Int) - (n : Int))) :: (fun v w => v = .pointer (some ⟨g, 0, none⟩)) :: (fun v w => v = .pointer (some ⟨g, 0, none⟩)) :: (fun v w => v = .pointer (some ⟨g, 1, none⟩)) :: (fun v w => v = .int .i64 ((p + n : Nat) : Int)) :: (fun v w => Rep w v xs) :: []) [(0, .pointer (some ⟨g, 0, none⟩)), (1, .int .i64 (n : Int))] [] (Sub.cons (rfl) (Sub.cons (rfl) (Sub.nil))) (Sub.nil) (Sub.cons (rfl) (Sub.cons (rfl) (Sub.nil))) (by kernel_rfl) rfl rfl rfl (And.intro (fun _ _ _ h _ => h) (And.intro (fun _ _ _ h _ => h) (And.intro (fun _ _ _ h _ => h) (And.intro (fun _ _ _ h _ => h) (And.intro (fun _ _ _ h _ => h) (And.intro (fun _ _ _ h _ => h) (And.intro (fun _ _ _ h _ => h) (And.intro (fun _ _ _ h _ => h) (And.intro (fun _ _ _ h _ => h) (And.intro (fun _ _ _ h _ => h) (And.intro (fun _ _ _ h _ => h) (And.intro (fun _ _ _ h _ => h) (And.intro (fun _ _ _ h _ => h) (And.intro (fun _ _ _ h _ => h) (And.intro (fun _ _ _ h g => h.ext g) (trivial)))))))))))))))) ?_ ?_
    · refine And.intro ?_ ?_
      · intro L_ w6 hX_ hs_ hf_ hd_
        refine W.step [(0, _)] (Sub.cons (hs_ _ _ rfl) (Sub.refl _)) ?_
        refine W.move rfl rfl ?_
        refine W.nil ?_
        exact At.step (Ext.refl _) rfl
      refine And.intro ?_ ?_
      · intro L_ w6 hX_ hs_ hf_ hd_
        obtain ⟨v0, e0, r0⟩ := hd_ 0 rfl
        obtain rfl : (.pointer (some ⟨g, 0, none⟩) : Value) = v0 := Eq.symm r0
        refine W.step [(33, _)] (Sub.cons (e0 _ rfl) (Sub.refl _)) ?_
        refine W.nilCheck rfl rfl ?_
        refine W.nil ?_
        exact At.step (Ext.refl _) rfl
      refine And.intro ?_ ?_
      · intro L_ w6 hX_ hs_ hf_ hd_
        obtain ⟨v1, e1, r1⟩ := hd_ 1 rfl
        obtain rfl : (.pointer (some ⟨g, 0, none⟩) : Value) = v1 := Eq.symm r1
        refine W.step [(34, _)] (Sub.cons (e1 _ rfl) (Sub.refl _)) ?_
        refine W.fieldB (off := 0) (size := 1) (t := 24) (Fld.of (by kernel_rfl)) rfl rfl rfl ?_
        refine W.nil ?_
        exact At.step (Ext.refl _) rfl
      refine And.intro ?_ ?_
      · intro L_ w6 hX_ hs_ hf_ hd_
        obtain ⟨v2, e2, r2⟩ := hd_ 2 rfl
        obtain rfl : (.pointer (some ⟨g, 0, none⟩) : Value) = v2 := Eq.symm r2
        refine W.step [(35, _)] (Sub.cons (e2 _ rfl) (Sub.refl _)) ?_
        refine W.loadB rfl Try.underlying24 rfl (by first | exact Bk.ext (by assumption) hX_ | exact GP.bkOld hX_ (by assumption) (by omega) (by omega) | exact Bk.chg (by assumption) hX_.1 (by omega) | exact Bk.chg (by assumption) hX_ (by rintro ⟨q_, h1_, h2_, h3_⟩; omega)) rfl rfl ?_
        refine W.nil ?_
        exact At.step (Ext.refl _) rfl
      refine And.intro ?_ ?_
      · intro L_ w6 hX_ hs_ hf_ hd_
        refine W.step [(0, _)] (Sub.cons (hs_ _ _ rfl) (Sub.refl _)) ?_
        refine W.move rfl rfl ?_
        refine W.nil ?_
        exact At.step (Ext.refl _) rfl
      refine And.intro ?_ ?_
      · intro L_ w6 hX_ hs_ hf_ hd_
        obtain ⟨v4, e4, r4⟩ := hd_ 4 rfl
        obtain rfl : (.pointer (some ⟨g, 0, none⟩) : Value) = v4 := Eq.symm r4
        refine W.step [(37, _)] (Sub.cons (e4 _ rfl) (Sub.refl _)) ?_
        refine W.nilCheck rfl rfl ?_
        refine W.nil ?_
        exact At.step (Ext.refl _) rfl
      refine And.intro ?_ ?_
      · intro L_ w6 hX_ hs_ hf_ hd_
        obtain ⟨v5, e5, r5⟩ := hd_ 5 rfl
        obtain rfl : (.pointer (some ⟨g, 0, none⟩) : Value) = v5 := Eq.symm r5
        refine W.step [(38, _)] (Sub.cons (e5 _ rfl) (Sub.refl _)) ?_
        refine W.fieldB (off := 1) (size := 1) (t := 3) (Fld.of (by kernel_rfl)) rfl rfl rfl ?_
        refine W.nil ?_
        exact At.step (Ext.refl _) rfl
      refine And.intro ?_ ?_
      · intro L_ w6 hX_ hs_ hf_ hd_
        obtain ⟨v6, e6, r6⟩ := hd_ 6 rfl
        obtain rfl : (.pointer (some ⟨g, 1, none⟩) : Value) = v6 := Eq.symm r6
        refine W.step [(39, _)] (Sub.cons (e6 _ rfl) (Sub.refl _)) ?_
        refine W.loadB rfl Try.underlying3 rfl (by first | exact Bk.ext (by assumption) hX_ | exact GP.bkOld hX_ (by assumption) (by omega) (by omega) | exact Bk.chg (by assumption) hX_.1 (by omega) | exact Bk.chg (by assumption) hX_ (by rintro ⟨q_, h1_, h2_, h3_⟩; omega)) rfl rfl ?_
        refine W.nil ?_
        exact At.step (Ext.refl _) rfl
      refine And.intro ?_ ?_
      · intro L_ w6 hX_ hs_ hf_ hd_
        refine W.step [(1, _)] (Sub.cons (hs_ _ _ rfl) (Sub.refl _)) ?_
        refine W.move rfl rfl ?_
        refine W.nil ?_
        exact At.step (Ext.refl _) rfl
      refine And.intro ?_ ?_
      · intro L_ w6 hX_ hs_ hf_ hd_
        obtain ⟨v7, e7, r7⟩ := hd_ 7 rfl
        obtain rfl : (.int .i64 ((p + n : Nat) : Int) : Value) = v7 := Eq.symm r7
        obtain ⟨v8, e8, r8⟩ := hd_ 8 rfl
        obtain rfl : (.int .i64 (n : Int) : Value) = v8 := Eq.symm r8
        refine W.step [(40, _), (41, _)] (Sub.cons (e7 _ rfl) (Sub.cons (e8 _ rfl) (Sub.refl _))) ?_
        first | refine W.subI rfl rfl (by omega) rfl ?_ | refine W.subW rfl rfl rfl ?_
        refine W.nil ?_
        exact At.step (Ext.refl _) rfl
      refine And.intro ?_ ?_
      · intro L_ w6 hX_ hs_ hf_ hd_
        refine W.step [(0, _)] (Sub.cons (hs_ _ _ rfl) (Sub.refl _)) ?_
        refine W.move rfl rfl ?_
        refine W.nil ?_
        exact At.step (Ext.refl _) rfl
      refine And.intro ?_ ?_
      · intro L_ w6 hX_ hs_ hf_ hd_
        obtain ⟨v10, e10, r10⟩ := hd_ 10 rfl
        obtain rfl : (.pointer (some ⟨g, 0, none⟩) : Value) = v10 := Eq.symm r10
        refine W.step [(43, _)] (Sub.cons (e10 _ rfl) (Sub.refl _)) ?_
        refine W.nilCheck rfl rfl ?_
        refine W.nil ?_
        exact At.step (Ext.refl _) rfl
      refine And.intro ?_ ?_
      · intro L_ w6 hX_ hs_ hf_ hd_
        obtain ⟨v11, e11, r11⟩ := hd_ 11 rfl
        obtain rfl : (.pointer (some ⟨g, 0, none⟩) : Value) = v11 := Eq.symm r11
        refine W.step [(44, _)] (Sub.cons (e11 _ rfl) (Sub.refl _)) ?_
        refine W.fieldB (off := 1) (size := 1) (t := 3) (Fld.of (by kernel_rfl)) rfl rfl rfl ?_
        refine W.nil ?_
        exact At.step (Ext.refl _) rfl
      refine And.intro ?_ ?_
      · intro L_ w6 hX_ hs_ hf_ hd_
        obtain ⟨v12, e12, r12⟩ := hd_ 12 rfl
        obtain rfl : (.pointer (some ⟨g, 1, none⟩) : Value) = v12 := Eq.symm r12
        refine W.step [(45, _)] (Sub.cons (e12 _ rfl) (Sub.refl _)) ?_
        refine W.loadB rfl Try.underlying3 rfl (by first | exact Bk.ext (by assumption) hX_ | exact GP.bkOld hX_ (by assumption) (by omega) (by omega) | exact Bk.chg (by assumption) hX_.1 (by omega) | exact Bk.chg (by assumption) hX_ (by rintro ⟨q_, h1_, h2_, h3_⟩; omega)) rfl rfl ?_
        refine W.nil ?_
        exact At.step (Ext.refl _) rfl
      refine And.intro ?_ ?_
      · intro L_ w6 hX_ hs_ hf_ hd_
        obtain ⟨v3, e3, r3⟩ := hd_ 3 rfl
        obtain rfl : (.slice q b.length c : Value) = v3 := Eq.symm r3
        obtain ⟨v9, e9, r9⟩ := hd_ 9 rfl
        obtain rfl : (.int .i64 (((p + n : Nat) : Int) - (n : Int)) : Value) = v9 := Eq.symm r9
        obtain ⟨v13, e13, r13⟩ := hd_ 13 rfl
        obtain rfl : (.int .i64 ((p + n : Nat) : Int) : Value) = v13 := Eq.symm r13
        refine W.step [(36, _), (42, _), (46, _)] (Sub.cons (e3 _ rfl) (Sub.cons (e9 _ rfl) (Sub.cons (e13 _ rfl) (Sub.refl _)))) ?_
        have hb5 := hP5.rdr.bs.ext hX_
        refine W.slice (lo := p) (hi := p + n) E8 Try.underlying24 rfl hb5 (.inr ⟨_, _, rfl, look_eq rfl (iV (by omega))⟩) (.inr ⟨_, _, rfl, rfl⟩) (by omega) (by omega) rfl ?_
        intro ao2 c2 hS2 _
        rw [show p + n - p = n by omega, Nat.mul_one, Nat.mul_one, ← List.map_drop, ← List.map_take, ← hxs] at hS2
        rw [show p + n - p = n by omega]
        have hrep : Rep w6 (.slice ao2 n c2) xs := ⟨ao2, c2, by rw [hxl], by show Sl _ _ _ _ _ _; rw [hxl]; exact hS2⟩
        refine W.nil ?_
        exact At.step (Ext.refl _) hrep
      exact trivial
    · intro L_ w6 hX7 hs_ hv_
      obtain ⟨v14, e14, r14⟩ := hv_ 14 (by decide)
      obtain ⟨a14, c14, rfl, hs14⟩ := r14
      refine W.weaken (l' := [(47, _), (0, _), (1, _)]) (Sub.cons (e14 _ rfl) (Sub.cons (hs_ _ _ rfl) (Sub.cons (hs_ _ _ rfl) (Sub.nil)))) ?_
      refine W.appendB (ys := xs) E8 Try.underlying24 rfl rfl (Ow.nil _ w6.heap.size 5) hs14 (by simp; omega) (Nat.le_refl _) rfl ?_
      rw [List.nil_append]
      intro v54 w54 ho54 hg54 _
      have hX54 : Ext w6 w54 := (Chg.of_grown hg54).mono fun k hk => by cases hk
      obtain ⟨aR, cR, rfl, hSR, hbR⟩ := ownsRow_form ho54
      refine W.assign rfl rfl ?_
      refine W.nil ?_
      refine At.thenCode ?_
      refine C.ret ?_
      refine At.ret1 Try.results82 rfl ?_
      have hr5 := hP5.rdr
      refine ⟨aR, cR, rfl, ⟨hSR, fun ad ea _ => ?_⟩, ⟨?_, ?_⟩⟩
      · have := hbR ad ea; have := hX3.size; have := hc5.size; have := hX7.size; omega
      · have := (hr5.ext hX7).ext hX54
        simpa using this
      · exact ((Chg.mono hX3 fun k hk => hk.elim).trans hc5).trans (Chg.mono (hX7.ext hX54) fun k hk => hk.elim)
theorem Rtake_ok (g : Nat) (q : Option Addr) (c : Nat) (b : List UInt8) (s : St) (n : Nat) (w : World) (h : Rdr w g q c b s) (hlen : b.length ≤ 1099511627776) (hn : n ≤ 1099511627776) :
    Ct Try.prog 82 #[.pointer (some ⟨g, 0, none⟩), .int .i64 (n : Int)] w (TakeP g q c b w (takeS n s)) := by
  obtain ⟨p, e, hB, hp, he, rfl⟩ := h.out
  by_cases h0 : e = 0
  · subst h0
    rw [if_pos rfl] at h ⊢
    by_cases hs : p + n ≤ b.length
    · rw [takeS_at hp hs]
      exact takeB g q c b p n w h hB hp hn hlen hs
    · rw [takeS_short hp hs]
      exact takeC g q c b p n w h hB hp hn hlen hs
  · rw [if_neg h0] at h ⊢
    rw [takeS_bad (show (e, ([] : List UInt8)).1 ≠ 0 from h0)]
    exact takeA g q c b p e n w h hB h0
theorem numS_take (s : St) : numS s = (if (takeS 8 s).2.1 = 0 then beNat (takeS 8 s).1 else 0, (takeS 8 s).2) := by
  unfold numS takeS
  by_cases h0 : s.1 = 0
  · rw [if_pos h0, if_pos h0]
    by_cases h1 : s.2.length < 8
    · rw [if_pos h1, if_pos h1]; rfl
    · rw [if_neg h1, if_neg h1]; rfl
  · rw [if_neg h0, if_neg h0]; simp [h0]
theorem Rdr.e {w : World} {g : Nat} {q : Option Addr} {c : Nat} {b : List UInt8} {s : St} (h : Rdr w g q c b s) : ∃ p : Nat, Bk w g [.slice q b.length c, .int .i64 (p : Int), .int .i64 (s.1 : Int)] ∧ p ≤ b.length ∧ (s.1 = 0 → s.2 = b.drop p) := by
  obtain ⟨p, e, h1, h2, h3, rfl⟩ := h.out
  exact ⟨p, h1, h2, fun h => by simp only at h; rw [h]; rfl⟩
theorem Rnumber_ok (g : Nat) (q : Option Addr) (c : Nat) (b : List UInt8) (s : St) (w : World) (h : Rdr w g q c b s) (hlen : b.length ≤ 1099511627776) :
    Ct Try.prog 81 #[.pointer (some ⟨g, 0, none⟩)] w (fun v w' => v = .int .u64 ((numS s).1 : Int) ∧ RdP w g q c b (numS s).2 w') := by
  refine Ct.enter [(0, .pointer (some ⟨g, 0, none⟩))] Try.func81 rfl rfl rfl rfl ?_
  rw [numS_take]
  refine C.seq ?_
  refine C.region ?_
  refine W.assign rfl rfl ?_
  refine W.nil ?_
  refine At.thenCode ?_
  refine C.seq ?_
  refine C.region ?_
  refine W.move rfl rfl ?_
  refine W.call Try.call82 rfl (Cod.Rtake_ok g q c b s 8 _ h hlen (by decide)) rfl ?_
  rintro v7 w7 ⟨ao7, c7, rfl, hN7, hP7⟩
  obtain ⟨p, hB7, _, _⟩ := hP7.rdr.e
  refine W.assign rfl rfl ?_
  refine W.nil ?_
  refine At.thenCode ?_
  refine C.seq ?_
  refine C.seq ?_
  refine C.region ?_
  refine W.move rfl rfl ?_
  refine W.nilCheck rfl rfl ?_
  refine W.fieldB (off := 2) (size := 1) (t := 3) (Fld.of (by kernel_rfl)) rfl rfl rfl ?_
  refine W.loadB rfl Try.underlying3 rfl (by assumption) rfl rfl ?_
  refine W.neqI rfl rfl rfl ?_
  refine W.nil ?_
  refine At.thenCode ?_
  first | refine C.condD rfl (fun c12 => ?_) (fun c12 => ?_) | refine C.cond rfl (fun c12 => ?_) (fun c12 => ?_)
  · refine C.seq ?_
    refine C.region ?_
    refine W.assign rfl rfl ?_
    refine W.nil ?_
    refine At.thenCode ?_
    refine C.ret ?_
    refine At.thenRet ?_
    refine At.ret1 Try.results81 rfl ?_
    rw [if_neg (by omega)]
    exact ⟨rfl, hP7⟩
  · have h0 : (takeS 8 s).2.1 = 0 := by omega
    obtain ⟨k1, k2, k3⟩ := takeS_ok h0
    have hl8 : (takeS 8 s).1.length = 8 := by rw [k3, List.length_take]; omega
    have hgv : getV (takeS 8 s).1 ((0 : Nat) : Int) 8 = beNat (takeS 8 s).1 := by
      rw [getV8 (by omega), List.drop_zero, List.take_of_length_le (by omega)]
    refine C.skip ?_
    refine At.thenCode ?_
    refine C.seq ?_
    refine C.region ?_
    refine W.move rfl rfl ?_
    have hgt := Words.RGet64_ok ao7 c7 (takeS 8 s).1 ((0 : Nat) : Int) _ hN7.1 (by omega) (by decide)
    rw [hgv] at hgt
    refine W.call Try.call54 rfl hgt rfl ?_
    rintro v15 w15 ⟨rfl, rfl⟩
    refine W.move rfl rfl ?_
    refine W.extract rfl rfl rfl ?_
    refine W.extract rfl rfl rfl ?_
    refine W.assign rfl rfl ?_
    refine W.assign rfl rfl ?_
    refine W.nil ?_
    refine At.thenCode ?_
    refine C.seq ?_
    refine C.region ?_
    refine W.move rfl rfl ?_
    refine W.assign rfl rfl ?_
    refine W.nil ?_
    refine At.thenCode ?_
    refine C.ret ?_
    refine At.ret1 Try.results81 rfl ?_
    rw [if_pos h0]
    exact ⟨rfl, hP7⟩
theorem endA (g : Nat) (q : Option Addr) (c : Nat) (b : List UInt8) (p e : Nat) (w : World) (hB : Bk w g [.slice q b.length c, .int .i64 (p : Int), .int .i64 (e : Int)]) (he : e ≠ 0) :
    Ct Try.prog 83 #[.pointer (some ⟨g, 0, none⟩)] w (fun v w' => v = .int .i64 (e : Int) ∧ Chg (fun k => k = g) w w') := by
  refine Ct.enter [(0, .pointer (some ⟨g, 0, none⟩))] Try.func83 rfl rfl rfl rfl ?_
  refine C.seq ?_
  refine C.region ?_
  refine W.assign rfl rfl ?_
  refine W.nil ?_
  refine At.thenCode ?_
  refine C.seq ?_
  refine C.seq ?_
  refine C.regionAny 17 ((fun v w => v = .pointer (some ⟨g, 0, none⟩)) :: (fun v w => v = .pointer (some ⟨g, 0, none⟩)) :: (fun v w => v = .pointer (some ⟨g, 2, none⟩)) :: (fun v w => v = .int .i64 (e : Int)) :: (fun v w => v = .bool false) :: (fun v w => v = .bool false) :: (fun v w => v = undef) :: (fun v w => v = undef) :: (fun v w => v = undef) :: (fun v w => v = undef) :: (fun v w => v = undef) :: (fun v w => v = undef) :: (fun v w => v = undef) :: (fun v w => v = undef) :: (fun v w => v = undef) :: (fun v w => v = undef) :: (fun v w => v = .bool false) :: []) [(0, .pointer (some ⟨g, 0, none⟩))] [] (Sub.cons (rfl) (Sub.nil)) (Sub.nil) (Sub.cons (rfl) (Sub.nil)) (by kernel_rfl) rfl rfl rfl (And.intro (fun _ _ _ h _ => h) (And.intro (fun _ _ _ h _ => h) (And.intro (fun _ _ _ h _ => h) (And.intro (fun _ _ _ h _ => h) (And.intro (fun _ _ _ h _ => h) (And.intro (fun _ _ _ h _ => h) (And.intro (fun _ _ _ h _ => h) (And.intro (fun _ _ _ h _ => h) (And.intro (fun _ _ _ h _ => h) (And.intro (fun _ _ _ h _ => h) (And.intro (fun _ _ _ h _ => h) (And.intro (fun _ _ _ h _ => h) (And.intro (fun _ _ _ h _ => h) (And.intro (fun _ _ _ h _ => h) (And.intro (fun _ _ _ h _ => h) (And.intro (fun _ _ _ h _ => h) (And.intro (fun _ _ _ h _ => h) (trivial)))))))))))))))))) ?_ ?_
  · refine And.intro ?_ ?_
    · intro L_ w1 hX_ hs_ hf_ hd_
      refine W.step [(0, _)] (Sub.cons (hs_ _ _ rfl) (Sub.refl _)) ?_
      refine W.move rfl rfl ?_
      refine W.nil ?_
      exact At.step (Ext.refl _) rfl
    refine And.intro ?_ ?_
    · intro L_ w1 hX_ hs_ hf_ hd_
      obtain ⟨v0, e0, r0⟩ := hd_ 0 rfl
      obtain rfl : (.pointer (some ⟨g, 0, none⟩) : Value) = v0 := Eq.symm r0
      refine W.step [(3, _)] (Sub.cons (e0 _ rfl) (Sub.refl _)) ?_
      refine W.nilCheck rfl rfl ?_
      refine W.nil ?_
      exact At.step (Ext.refl _) rfl
    refine And.intro ?_ ?_
    · intro L_ w1 hX_ hs_ hf_ hd_
      obtain ⟨v1, e1, r1⟩ := hd_ 1 rfl
      obtain rfl : (.pointer (some ⟨g, 0, none⟩) : Value) = v1 := Eq.symm r1
      refine W.step [(4, _)] (Sub.cons (e1 _ rfl) (Sub.refl _)) ?_
      refine W.fieldB (off := 2) (size := 1) (t := 3) (Fld.of (by kernel_rfl)) rfl rfl rfl ?_
      refine W.nil ?_
      exact At.step (Ext.refl _) rfl
    refine And.intro ?_ ?_
    · intro L_ w1 hX_ hs_ hf_ hd_
      obtain ⟨v2, e2, r2⟩ := hd_ 2 rfl
      obtain rfl : (.pointer (some ⟨g, 2, none⟩) : Value) = v2 := Eq.symm r2
      refine W.step [(5, _)] (Sub.cons (e2 _ rfl) (Sub.refl _)) ?_
      refine W.loadB rfl Try.underlying3 rfl (by first | exact Bk.ext (by assumption) hX_ | exact GP.bkOld hX_ (by assumption) (by omega) (by omega) | exact Bk.chg (by assumption) hX_.1 (by omega) | exact Bk.chg (by assumption) hX_ (by rintro ⟨q_, h1_, h2_, h3_⟩; omega)) rfl rfl ?_
      refine W.nil ?_
      exact At.step (Ext.refl _) rfl
    refine And.intro ?_ ?_
    · intro L_ w1 hX_ hs_ hf_ hd_
      obtain ⟨v3, e3, r3⟩ := hd_ 3 rfl
      obtain rfl : (.int .i64 (e : Int) : Value) = v3 := Eq.symm r3
      refine W.step [(6, _)] (Sub.cons (e3 _ rfl) (Sub.refl _)) ?_
      refine W.eqlI rfl rfl rfl ?_
      refine W.eqv (bF (by omega)) ?_
      refine W.nil ?_
      exact At.step (Ext.refl _) rfl
    refine And.intro ?_ ?_
    · intro L_ w1 hX_ hs_ hf_ hd_
      obtain ⟨v4, e4, r4⟩ := hd_ 4 rfl
      obtain rfl : (.bool false : Value) = v4 := Eq.symm r4
      refine W.step [(7, _)] (Sub.cons (e4 _ rfl) (Sub.refl _)) ?_
      refine W.move rfl rfl ?_
      refine W.nil ?_
      exact At.step (Ext.refl _) rfl
    refine And.intro ?_ ?_
    · intro L_ w1 hX_ hs_ hf_ hd_
      obtain ⟨v5, e5, r5⟩ := hd_ 5 rfl
      obtain rfl : (.bool false : Value) = v5 := Eq.symm r5
      refine W.step [(8, _)] (Sub.cons (e5 _ rfl) (Sub.refl _)) ?_
      refine W.skips rfl rfl rfl rfl rfl rfl ?_
      refine W.nil ?_
      exact At.step (Ext.refl _) rfl
    refine And.intro ?_ ?_
    · intro L_ w1 hX_ hs_ hf_ hd_
      obtain ⟨v5, e5, r5⟩ := hd_ 5 rfl
      obtain rfl : (.bool false : Value) = v5 := Eq.symm r5
      refine W.step [(8, _)] (Sub.cons (e5 _ rfl) (Sub.refl _)) ?_
      refine W.skips rfl rfl rfl rfl rfl rfl ?_
      refine W.nil ?_
      exact At.step (Ext.refl _) rfl
    refine And.intro ?_ ?_
    · intro L_ w1 hX_ hs_ hf_ hd_
      obtain ⟨v5, e5, r5⟩ := hd_ 5 rfl
      obtain rfl : (.bool false : Value) = v5 := Eq.symm r5
      refine W.step [(8, _)] (Sub.cons (e5 _ rfl) (Sub.refl _)) ?_
      refine W.skips rfl rfl rfl rfl rfl rfl ?_
      refine W.nil ?_
      exact At.step (Ext.refl _) rfl
    refine And.intro ?_ ?_
    · intro L_ w1 hX_ hs_ hf_ hd_
      obtain ⟨v5, e5, r5⟩ := hd_ 5 rfl
      obtain rfl : (.bool false : Value) = v5 := Eq.symm r5
      refine W.step [(8, _)] (Sub.cons (e5 _ rfl) (Sub.refl _)) ?_
      refine W.skips rfl rfl rfl rfl rfl rfl ?_
      refine W.nil ?_
      exact At.step (Ext.refl _) rfl
    refine And.intro ?_ ?_
    · intro L_ w1 hX_ hs_ hf_ hd_
      obtain ⟨v5, e5, r5⟩ := hd_ 5 rfl
      obtain rfl : (.bool false : Value) = v5 := Eq.symm r5
      refine W.step [(8, _)] (Sub.cons (e5 _ rfl) (Sub.refl _)) ?_
      refine W.skips rfl rfl rfl rfl rfl rfl ?_
      refine W.nil ?_
      exact At.step (Ext.refl _) rfl
    refine And.intro ?_ ?_
    · intro L_ w1 hX_ hs_ hf_ hd_
      obtain ⟨v5, e5, r5⟩ := hd_ 5 rfl
      obtain rfl : (.bool false : Value) = v5 := Eq.symm r5
      refine W.step [(8, _)] (Sub.cons (e5 _ rfl) (Sub.refl _)) ?_
      refine W.skips rfl rfl rfl rfl rfl rfl ?_
      refine W.nil ?_
      exact At.step (Ext.refl _) rfl
    refine And.intro ?_ ?_
    · intro L_ w1 hX_ hs_ hf_ hd_
      obtain ⟨v5, e5, r5⟩ := hd_ 5 rfl
      obtain rfl : (.bool false : Value) = v5 := Eq.symm r5
      refine W.step [(8, _)] (Sub.cons (e5 _ rfl) (Sub.refl _)) ?_
      refine W.skips rfl rfl rfl rfl rfl rfl ?_
      refine W.nil ?_
      exact At.step (Ext.refl _) rfl
    refine And.intro ?_ ?_
    · intro L_ w1 hX_ hs_ hf_ hd_
      obtain ⟨v5, e5, r5⟩ := hd_ 5 rfl
      obtain rfl : (.bool false : Value) = v5 := Eq.symm r5
      refine W.step [(8, _)] (Sub.cons (e5 _ rfl) (Sub.refl _)) ?_
      refine W.skips rfl rfl rfl rfl rfl rfl ?_
      refine W.nil ?_
      exact At.step (Ext.refl _) rfl
    refine And.intro ?_ ?_
    · intro L_ w1 hX_ hs_ hf_ hd_
      obtain ⟨v5, e5, r5⟩ := hd_ 5 rfl
      obtain rfl : (.bool false : Value) = v5 := Eq.symm r5
      refine W.step [(8, _)] (Sub.cons (e5 _ rfl) (Sub.refl _)) ?_
      refine W.skips rfl rfl rfl rfl rfl rfl ?_
      refine W.nil ?_
      exact At.step (Ext.refl _) rfl
    refine And.intro ?_ ?_
    · intro L_ w1 hX_ hs_ hf_ hd_
      obtain ⟨v5, e5, r5⟩ := hd_ 5 rfl
      obtain rfl : (.bool false : Value) = v5 := Eq.symm r5
      refine W.step [(8, _)] (Sub.cons (e5 _ rfl) (Sub.refl _)) ?_
      refine W.skips rfl rfl rfl rfl rfl rfl ?_
      refine W.nil ?_
      exact At.step (Ext.refl _) rfl
    refine And.intro ?_ ?_
    · intro L_ w1 hX_ hs_ hf_ hd_
      obtain ⟨v5, e5, r5⟩ := hd_ 5 rfl
      obtain rfl : (.bool false : Value) = v5 := Eq.symm r5
      obtain ⟨v15, e15, r15⟩ := hd_ 15 rfl
      obtain rfl : (undef : Value) = v15 := Eq.symm r15
      refine W.step [(8, _), (18, _)] (Sub.cons (e5 _ rfl) (Sub.cons (e15 _ rfl) (Sub.refl _))) ?_
      refine W.pickF rfl rfl rfl ?_
      refine W.nil ?_
      exact At.step (Ext.refl _) rfl
    exact trivial
  · intro L_ w1 hX1 hs_ hv_
    obtain ⟨v16, e16, r16⟩ := hv_ 16 (by decide)
    obtain rfl : (.bool false : Value) = v16 := Eq.symm r16
    refine W.weaken (l' := [(19, _), (0, _)]) (Sub.cons (e16 _ rfl) (Sub.cons (hs_ _ _ rfl) (Sub.nil))) ?_
    refine W.nil ?_
    refine At.thenCode ?_
    refine C.condF rfl ?_
    refine C.skip ?_
    refine At.thenCode ?_
    refine C.seq ?_
    refine C.region ?_
    refine W.move rfl rfl ?_
    refine W.nilCheck rfl rfl ?_
    refine W.fieldB (off := 2) (size := 1) (t := 3) (Fld.of (by kernel_rfl)) rfl rfl rfl ?_
    have hB1 := hB.ext hX1
    refine W.loadB rfl Try.underlying3 rfl (by assumption) rfl rfl ?_
    refine W.assign rfl rfl ?_
    refine W.nil ?_
    refine At.thenCode ?_
    refine C.ret ?_
    refine At.ret1 Try.results83 rfl ?_
    exact ⟨rfl, Chg.mono hX1 fun k hk => hk.elim⟩
theorem endB (g : Nat) (q : Option Addr) (c : Nat) (b : List UInt8) (w : World) (hB : Bk w g [.slice q b.length c, .int .i64 (b.length : Int), .int .i64 0]) :
    Ct Try.prog 83 #[.pointer (some ⟨g, 0, none⟩)] w (fun v w' => v = .int .i64 0 ∧ Chg (fun k => k = g) w w') := by
  refine Ct.enter [(0, .pointer (some ⟨g, 0, none⟩))] Try.func83 rfl rfl rfl rfl ?_
  refine C.seq ?_
  refine C.region ?_
  refine W.assign rfl rfl ?_
  refine W.nil ?_
  refine At.thenCode ?_
  refine C.seq ?_
  refine C.seq ?_
  refine C.regionAny 17 ((fun v w => v = .pointer (some ⟨g, 0, none⟩)) :: (fun v w => v = .pointer (some ⟨g, 0, none⟩)) :: (fun v w => v = .pointer (some ⟨g, 2, none⟩)) :: (fun v w => v = .int .i64 0) :: (fun v w => v = .bool true) :: (fun v w => v = .bool true) :: (fun v w => v = .pointer (some ⟨g, 0, none⟩)) :: (fun v w => v = .pointer (some ⟨g, 0, none⟩)) :: (fun v w => v = .pointer (some ⟨g, 1, none⟩)) :: (fun v w => v = .int .i64 (b.length : Int)) :: (fun v w => v = .pointer (some ⟨g, 0, none⟩)) :: (fun v w => v = .pointer (some ⟨g, 0, none⟩)) :: (fun v w => v = .pointer (some ⟨g, 0, none⟩)) :: (fun v w => v = .slice q b.length c) :: (fun v w => v = .int .i64 (b.length : Int)) :: (fun v w => v = .bool false) :: (fun v w => v = .bool false) :: []) [(0, .pointer (some ⟨g, 0, none⟩))] [] (Sub.cons (rfl) (Sub.nil)) (Sub.nil) (Sub.cons (rfl) (Sub.nil)) (by kernel_rfl) rfl rfl rfl (And.intro (fun _ _ _ h _ => h) (And.intro (fun _ _ _ h _ => h) (And.intro (fun _ _ _ h _ => h) (And.intro (fun _ _ _ h _ => h) (And.intro (fun _ _ _ h _ => h) (And.intro (fun _ _ _ h _ => h) (And.intro (fun _ _ _ h _ => h) (And.intro (fun _ _ _ h _ => h) (And.intro (fun _ _ _ h _ => h) (And.intro (fun _ _ _ h _ => h) (And.intro (fun _ _ _ h _ => h) (And.intro (fun _ _ _ h _ => h) (And.intro (fun _ _ _ h _ => h) (And.intro (fun _ _ _ h _ => h) (And.intro (fun _ _ _ h _ => h) (And.intro (fun _ _ _ h _ => h) (And.intro (fun _ _ _ h _ => h) (trivial)))))))))))))))))) ?_ ?_
  · refine And.intro ?_ ?_
    · intro L_ w1 hX_ hs_ hf_ hd_
      refine W.step [(0, _)] (Sub.cons (hs_ _ _ rfl) (Sub.refl _)) ?_
      refine W.move rfl rfl ?_
      refine W.nil ?_
      exact At.step (Ext.refl _) rfl
    refine And.intro ?_ ?_
    · intro L_ w1 hX_ hs_ hf_ hd_
      obtain ⟨v0, e0, r0⟩ := hd_ 0 rfl
      obtain rfl : (.pointer (some ⟨g, 0, none⟩) : Value) = v0 := Eq.symm r0
      refine W.step [(3, _)] (Sub.cons (e0 _ rfl) (Sub.refl _)) ?_
      refine W.nilCheck rfl rfl ?_
      refine W.nil ?_
      exact At.step (Ext.refl _) rfl
    refine And.intro ?_ ?_
    · intro L_ w1 hX_ hs_ hf_ hd_
      obtain ⟨v1, e1, r1⟩ := hd_ 1 rfl
      obtain rfl : (.pointer (some ⟨g, 0, none⟩) : Value) = v1 := Eq.symm r1
      refine W.step [(4, _)] (Sub.cons (e1 _ rfl) (Sub.refl _)) ?_
      refine W.fieldB (off := 2) (size := 1) (t := 3) (Fld.of (by kernel_rfl)) rfl rfl rfl ?_
      refine W.nil ?_
      exact At.step (Ext.refl _) rfl
    refine And.intro ?_ ?_
    · intro L_ w1 hX_ hs_ hf_ hd_
      obtain ⟨v2, e2, r2⟩ := hd_ 2 rfl
      obtain rfl : (.pointer (some ⟨g, 2, none⟩) : Value) = v2 := Eq.symm r2
      refine W.step [(5, _)] (Sub.cons (e2 _ rfl) (Sub.refl _)) ?_
      refine W.loadB rfl Try.underlying3 rfl (by first | exact Bk.ext (by assumption) hX_ | exact GP.bkOld hX_ (by assumption) (by omega) (by omega) | exact Bk.chg (by assumption) hX_.1 (by omega) | exact Bk.chg (by assumption) hX_ (by rintro ⟨q_, h1_, h2_, h3_⟩; omega)) rfl rfl ?_
      refine W.nil ?_
      exact At.step (Ext.refl _) rfl
    refine And.intro ?_ ?_
    · intro L_ w1 hX_ hs_ hf_ hd_
      obtain ⟨v3, e3, r3⟩ := hd_ 3 rfl
      obtain rfl : (.int .i64 0 : Value) = v3 := Eq.symm r3
      refine W.step [(6, _)] (Sub.cons (e3 _ rfl) (Sub.refl _)) ?_
      refine W.eqlI rfl rfl rfl ?_
      refine W.eqv (bT (rfl)) ?_
      refine W.nil ?_
      exact At.step (Ext.refl _) rfl
    refine And.intro ?_ ?_
    · intro L_ w1 hX_ hs_ hf_ hd_
      obtain ⟨v4, e4, r4⟩ := hd_ 4 rfl
      obtain rfl : (.bool true : Value) = v4 := Eq.symm r4
      refine W.step [(7, _)] (Sub.cons (e4 _ rfl) (Sub.refl _)) ?_
      refine W.move rfl rfl ?_
      refine W.nil ?_
      exact At.step (Ext.refl _) rfl
    refine And.intro ?_ ?_
    · intro L_ w1 hX_ hs_ hf_ hd_
      obtain ⟨v5, e5, r5⟩ := hd_ 5 rfl
      obtain rfl : (.bool true : Value) = v5 := Eq.symm r5
      refine W.step [(0, _), (8, _)] (Sub.cons (hs_ _ _ rfl) (Sub.cons (e5 _ rfl) (Sub.refl _))) ?_
      refine W.wants rfl rfl rfl rfl ?_
      refine W.move rfl rfl ?_
      refine W.nil ?_
      exact At.step (Ext.refl _) rfl
    refine And.intro ?_ ?_
    · intro L_ w1 hX_ hs_ hf_ hd_
      obtain ⟨v6, e6, r6⟩ := hd_ 6 rfl
      obtain rfl : (.pointer (some ⟨g, 0, none⟩) : Value) = v6 := Eq.symm r6
      obtain ⟨v5, e5, r5⟩ := hd_ 5 rfl
      obtain rfl : (.bool true : Value) = v5 := Eq.symm r5
      refine W.step [(9, _), (8, _)] (Sub.cons (e6 _ rfl) (Sub.cons (e5 _ rfl) (Sub.refl _))) ?_
      refine W.wants rfl rfl rfl rfl ?_
      refine W.nilCheck rfl rfl ?_
      refine W.nil ?_
      exact At.step (Ext.refl _) rfl
    refine And.intro ?_ ?_
    · intro L_ w1 hX_ hs_ hf_ hd_
      obtain ⟨v7, e7, r7⟩ := hd_ 7 rfl
      obtain rfl : (.pointer (some ⟨g, 0, none⟩) : Value) = v7 := Eq.symm r7
      obtain ⟨v5, e5, r5⟩ := hd_ 5 rfl
      obtain rfl : (.bool true : Value) = v5 := Eq.symm r5
      refine W.step [(10, _), (8, _)] (Sub.cons (e7 _ rfl) (Sub.cons (e5 _ rfl) (Sub.refl _))) ?_
      refine W.wants rfl rfl rfl rfl ?_
      refine W.fieldB (off := 1) (size := 1) (t := 3) (Fld.of (by kernel_rfl)) rfl rfl rfl ?_
      refine W.nil ?_
      exact At.step (Ext.refl _) rfl
    refine And.intro ?_ ?_
    · intro L_ w1 hX_ hs_ hf_ hd_
      obtain ⟨v8, e8, r8⟩ := hd_ 8 rfl
      obtain rfl : (.pointer (some ⟨g, 1, none⟩) : Value) = v8 := Eq.symm r8
      obtain ⟨v5, e5, r5⟩ := hd_ 5 rfl
      obtain rfl : (.bool true : Value) = v5 := Eq.symm r5
      refine W.step [(11, _), (8, _)] (Sub.cons (e8 _ rfl) (Sub.cons (e5 _ rfl) (Sub.refl _))) ?_
      refine W.wants rfl rfl rfl rfl ?_
      refine W.loadB rfl Try.underlying3 rfl (by first | exact Bk.ext (by assumption) hX_ | exact GP.bkOld hX_ (by assumption) (by omega) (by omega) | exact Bk.chg (by assumption) hX_.1 (by omega) | exact Bk.chg (by assumption) hX_ (by rintro ⟨q_, h1_, h2_, h3_⟩; omega)) rfl rfl ?_
      refine W.nil ?_
      exact At.step (Ext.refl _) rfl
    refine And.intro ?_ ?_
    · intro L_ w1 hX_ hs_ hf_ hd_
      obtain ⟨v5, e5, r5⟩ := hd_ 5 rfl
      obtain rfl : (.bool true : Value) = v5 := Eq.symm r5
      refine W.step [(0, _), (8, _)] (Sub.cons (hs_ _ _ rfl) (Sub.cons (e5 _ rfl) (Sub.refl _))) ?_
      refine W.wants rfl rfl rfl rfl ?_
      refine W.move rfl rfl ?_
      refine W.nil ?_
      exact At.step (Ext.refl _) rfl
    refine And.intro ?_ ?_
    · intro L_ w1 hX_ hs_ hf_ hd_
      obtain ⟨v10, e10, r10⟩ := hd_ 10 rfl
      obtain rfl : (.pointer (some ⟨g, 0, none⟩) : Value) = v10 := Eq.symm r10
      obtain ⟨v5, e5, r5⟩ := hd_ 5 rfl
      obtain rfl : (.bool true : Value) = v5 := Eq.symm r5
      refine W.step [(13, _), (8, _)] (Sub.cons (e10 _ rfl) (Sub.cons (e5 _ rfl) (Sub.refl _))) ?_
      refine W.wants rfl rfl rfl rfl ?_
      refine W.nilCheck rfl rfl ?_
      refine W.nil ?_
      exact At.step (Ext.refl _) rfl
    refine And.intro ?_ ?_
    · intro L_ w1 hX_ hs_ hf_ hd_
      obtain ⟨v11, e11, r11⟩ := hd_ 11 rfl
      obtain rfl : (.pointer (some ⟨g, 0, none⟩) : Value) = v11 := Eq.symm r11
      obtain ⟨v5, e5, r5⟩ := hd_ 5 rfl
      obtain rfl : (.bool true : Value) = v5 := Eq.symm r5
      refine W.step [(14, _), (8, _)] (Sub.cons (e11 _ rfl) (Sub.cons (e5 _ rfl) (Sub.refl _))) ?_
      refine W.wants rfl rfl rfl rfl ?_
      refine W.fieldB (off := 0) (size := 1) (t := 24) (Fld.of (by kernel_rfl)) rfl rfl rfl ?_
      refine W.nil ?_
      exact At.step (Ext.refl _) rfl
    refine And.intro ?_ ?_
    · intro L_ w1 hX_ hs_ hf_ hd_
      obtain ⟨v12, e12, r12⟩ := hd_ 12 rfl
      obtain rfl : (.pointer (some ⟨g, 0, none⟩) : Value) = v12 := Eq.symm r12
      obtain ⟨v5, e5, r5⟩ := hd_ 5 rfl
      obtain rfl : (.bool true : Value) = v5 := Eq.symm r5
      refine W.step [(15, _), (8, _)] (Sub.cons (e12 _ rfl) (Sub.cons (e5 _ rfl) (Sub.refl _))) ?_
      refine W.wants rfl rfl rfl rfl ?_
      refine W.loadB rfl Try.underlying24 rfl (by first | exact Bk.ext (by assumption) hX_ | exact GP.bkOld hX_ (by assumption) (by omega) (by omega) | exact Bk.chg (by assumption) hX_.1 (by omega) | exact Bk.chg (by assumption) hX_ (by rintro ⟨q_, h1_, h2_, h3_⟩; omega)) rfl rfl ?_
      refine W.nil ?_
      exact At.step (Ext.refl _) rfl
    refine And.intro ?_ ?_
    · intro L_ w1 hX_ hs_ hf_ hd_
      obtain ⟨v13, e13, r13⟩ := hd_ 13 rfl
      obtain rfl : (.slice q b.length c : Value) = v13 := Eq.symm r13
      obtain ⟨v5, e5, r5⟩ := hd_ 5 rfl
      obtain rfl : (.bool true : Value) = v5 := Eq.symm r5
      refine W.step [(16, _), (8, _)] (Sub.cons (e13 _ rfl) (Sub.cons (e5 _ rfl) (Sub.refl _))) ?_
      refine W.wants rfl rfl rfl rfl ?_
      refine W.lenS rfl Try.underlying24 rfl ?_
      refine W.nil ?_
      exact At.step (Ext.refl _) rfl
    refine And.intro ?_ ?_
    · intro L_ w1 hX_ hs_ hf_ hd_
      obtain ⟨v9, e9, r9⟩ := hd_ 9 rfl
      obtain rfl : (.int .i64 (b.length : Int) : Value) = v9 := Eq.symm r9
      obtain ⟨v14, e14, r14⟩ := hd_ 14 rfl
      obtain rfl : (.int .i64 (b.length : Int) : Value) = v14 := Eq.symm r14
      obtain ⟨v5, e5, r5⟩ := hd_ 5 rfl
      obtain rfl : (.bool true : Value) = v5 := Eq.symm r5
      refine W.step [(12, _), (17, _), (8, _)] (Sub.cons (e9 _ rfl) (Sub.cons (e14 _ rfl) (Sub.cons (e5 _ rfl) (Sub.refl _)))) ?_
      refine W.wants rfl rfl rfl rfl ?_
      refine W.neqI rfl rfl rfl ?_
      refine W.eqv (bF (fun h => h rfl)) ?_
      refine W.nil ?_
      exact At.step (Ext.refl _) rfl
    refine And.intro ?_ ?_
    · intro L_ w1 hX_ hs_ hf_ hd_
      obtain ⟨v5, e5, r5⟩ := hd_ 5 rfl
      obtain rfl : (.bool true : Value) = v5 := Eq.symm r5
      obtain ⟨v15, e15, r15⟩ := hd_ 15 rfl
      obtain rfl : (.bool false : Value) = v15 := Eq.symm r15
      refine W.step [(8, _), (18, _)] (Sub.cons (e5 _ rfl) (Sub.cons (e15 _ rfl) (Sub.refl _))) ?_
      refine W.pickT rfl rfl rfl ?_
      refine W.nil ?_
      exact At.step (Ext.refl _) rfl
    exact trivial
  · intro L_ w1 hX1 hs_ hv_
    obtain ⟨v16, e16, r16⟩ := hv_ 16 (by decide)
    obtain rfl : (.bool false : Value) = v16 := Eq.symm r16
    refine W.weaken (l' := [(19, _), (0, _)]) (Sub.cons (e16 _ rfl) (Sub.cons (hs_ _ _ rfl) (Sub.nil))) ?_
    refine W.nil ?_
    refine At.thenCode ?_
    refine C.condF rfl ?_
    refine C.skip ?_
    refine At.thenCode ?_
    refine C.seq ?_
    refine C.region ?_
    refine W.move rfl rfl ?_
    refine W.nilCheck rfl rfl ?_
    refine W.fieldB (off := 2) (size := 1) (t := 3) (Fld.of (by kernel_rfl)) rfl rfl rfl ?_
    have hB1 := hB.ext hX1
    refine W.loadB rfl Try.underlying3 rfl (by assumption) rfl rfl ?_
    refine W.assign rfl rfl ?_
    refine W.nil ?_
    refine At.thenCode ?_
    refine C.ret ?_
    refine At.ret1 Try.results83 rfl ?_
    exact ⟨rfl, Chg.mono hX1 fun k hk => hk.elim⟩
theorem endC (g : Nat) (q : Option Addr) (c : Nat) (b : List UInt8) (p : Nat) (w : World) (h : Rdr w g q c b (0, b.drop p)) (hB : Bk w g [.slice q b.length c, .int .i64 (p : Int), .int .i64 0]) (hp : p < b.length) :
    Ct Try.prog 83 #[.pointer (some ⟨g, 0, none⟩)] w (fun v w' => v = .int .i64 2 ∧ Chg (fun k => k = g) w w') := by
  refine Ct.enter [(0, .pointer (some ⟨g, 0, none⟩))] Try.func83 rfl rfl rfl rfl ?_
  refine C.seq ?_
  refine C.region ?_
  refine W.assign rfl rfl ?_
  refine W.nil ?_
  refine At.thenCode ?_
  refine C.seq ?_
  refine C.seq ?_
  refine C.regionAny 17 ((fun v w => v = .pointer (some ⟨g, 0, none⟩)) :: (fun v w => v = .pointer (some ⟨g, 0, none⟩)) :: (fun v w => v = .pointer (some ⟨g, 2, none⟩)) :: (fun v w => v = .int .i64 0) :: (fun v w => v = .bool true) :: (fun v w => v = .bool true) :: (fun v w => v = .pointer (some ⟨g, 0, none⟩)) :: (fun v w => v = .pointer (some ⟨g, 0, none⟩)) :: (fun v w => v = .pointer (some ⟨g, 1, none⟩)) :: (fun v w => v = .int .i64 (p : Int)) :: (fun v w => v = .pointer (some ⟨g, 0, none⟩)) :: (fun v w => v = .pointer (some ⟨g, 0, none⟩)) :: (fun v w => v = .pointer (some ⟨g, 0, none⟩)) :: (fun v w => v = .slice q b.length c) :: (fun v w => v = .int .i64 (b.length : Int)) :: (fun v w => v = .bool true) :: (fun v w => v = .bool true) :: []) [(0, .pointer (some ⟨g, 0, none⟩))] [] (Sub.cons (rfl) (Sub.nil)) (Sub.nil) (Sub.cons (rfl) (Sub.nil)) (by kernel_rfl) rfl rfl rfl (And.intro (fun _ _ _ h _ => h) (And.intro (fun _ _ _ h _ => h) (And.intro (fun _ _ _ h _ => h) (And.intro (fun _ _ _ h _ => h) (And.intro (fun _ _ _ h _ => h) (And.intro (fun _ _ _ h _ => h) (And.intro (fun _ _ _ h _ => h) (And.intro (fun _ _ _ h _ => h) (And.intro (fun _ _ _ h _ => h) (And.intro (fun _ _ _ h _ => h) (And.intro (fun _ _ _ h _ => h) (And.intro (fun _ _ _ h _ => h) (And.intro (fun _ _ _ h _ => h) (And.intro (fun _ _ _ h _ => h) (And.intro (fun _ _ _ h _ => h) (And.intro (fun _ _ _ h _ => h) (And.intro (fun _ _ _ h _ => h) (trivial)))))))))))))))))) ?_ ?_
  · refine And.intro ?_ ?_
    · intro L_ w1 hX_ hs_ hf_ hd_
      refine W.step [(0, _)] (Sub.cons (hs_ _ _ rfl) (Sub.refl _)) ?_
      refine W.move rfl rfl ?_
      refine W.nil ?_
      exact At.step (Ext.refl _) rfl
    refine And.intro ?_ ?_
    · intro L_ w1 hX_ hs_ hf_ hd_
      obtain ⟨v0, e0, r0⟩ := hd_ 0 rfl
      obtain rfl : (.pointer (some ⟨g, 0, none⟩) : Value) = v0 := Eq.symm r0
      refine W.step [(3, _)] (Sub.cons (e0 _ rfl) (Sub.refl _)) ?_
      refine W.nilCheck rfl rfl ?_
      refine W.nil ?_
      exact At.step (Ext.refl _) rfl
    refine And.intro ?_ ?_
    · intro L_ w1 hX_ hs_ hf_ hd_
      obtain ⟨v1, e1, r1⟩ := hd_ 1 rfl
      obtain rfl : (.pointer (some ⟨g, 0, none⟩) : Value) = v1 := Eq.symm r1
      refine W.step [(4, _)] (Sub.cons (e1 _ rfl) (Sub.refl _)) ?_
      refine W.fieldB (off := 2) (size := 1) (t := 3) (Fld.of (by kernel_rfl)) rfl rfl rfl ?_
      refine W.nil ?_
      exact At.step (Ext.refl _) rfl
    refine And.intro ?_ ?_
    · intro L_ w1 hX_ hs_ hf_ hd_
      obtain ⟨v2, e2, r2⟩ := hd_ 2 rfl
      obtain rfl : (.pointer (some ⟨g, 2, none⟩) : Value) = v2 := Eq.symm r2
      refine W.step [(5, _)] (Sub.cons (e2 _ rfl) (Sub.refl _)) ?_
      refine W.loadB rfl Try.underlying3 rfl (by first | exact Bk.ext (by assumption) hX_ | exact GP.bkOld hX_ (by assumption) (by omega) (by omega) | exact Bk.chg (by assumption) hX_.1 (by omega) | exact Bk.chg (by assumption) hX_ (by rintro ⟨q_, h1_, h2_, h3_⟩; omega)) rfl rfl ?_
      refine W.nil ?_
      exact At.step (Ext.refl _) rfl
    refine And.intro ?_ ?_
    · intro L_ w1 hX_ hs_ hf_ hd_
      obtain ⟨v3, e3, r3⟩ := hd_ 3 rfl
      obtain rfl : (.int .i64 0 : Value) = v3 := Eq.symm r3
      refine W.step [(6, _)] (Sub.cons (e3 _ rfl) (Sub.refl _)) ?_
      refine W.eqlI rfl rfl rfl ?_
      refine W.eqv (bT (rfl)) ?_
      refine W.nil ?_
      exact At.step (Ext.refl _) rfl
    refine And.intro ?_ ?_
    · intro L_ w1 hX_ hs_ hf_ hd_
      obtain ⟨v4, e4, r4⟩ := hd_ 4 rfl
      obtain rfl : (.bool true : Value) = v4 := Eq.symm r4
      refine W.step [(7, _)] (Sub.cons (e4 _ rfl) (Sub.refl _)) ?_
      refine W.move rfl rfl ?_
      refine W.nil ?_
      exact At.step (Ext.refl _) rfl
    refine And.intro ?_ ?_
    · intro L_ w1 hX_ hs_ hf_ hd_
      obtain ⟨v5, e5, r5⟩ := hd_ 5 rfl
      obtain rfl : (.bool true : Value) = v5 := Eq.symm r5
      refine W.step [(0, _), (8, _)] (Sub.cons (hs_ _ _ rfl) (Sub.cons (e5 _ rfl) (Sub.refl _))) ?_
      refine W.wants rfl rfl rfl rfl ?_
      refine W.move rfl rfl ?_
      refine W.nil ?_
      exact At.step (Ext.refl _) rfl
    refine And.intro ?_ ?_
    · intro L_ w1 hX_ hs_ hf_ hd_
      obtain ⟨v6, e6, r6⟩ := hd_ 6 rfl
      obtain rfl : (.pointer (some ⟨g, 0, none⟩) : Value) = v6 := Eq.symm r6
      obtain ⟨v5, e5, r5⟩ := hd_ 5 rfl
      obtain rfl : (.bool true : Value) = v5 := Eq.symm r5
      refine W.step [(9, _), (8, _)] (Sub.cons (e6 _ rfl) (Sub.cons (e5 _ rfl) (Sub.refl _))) ?_
      refine W.wants rfl rfl rfl rfl ?_
      refine W.nilCheck rfl rfl ?_
      refine W.nil ?_
      exact At.step (Ext.refl _) rfl
    refine And.intro ?_ ?_
    · intro L_ w1 hX_ hs_ hf_ hd_
      obtain ⟨v7, e7, r7⟩ := hd_ 7 rfl
      obtain rfl : (.pointer (some ⟨g, 0, none⟩) : Value) = v7 := Eq.symm r7
      obtain ⟨v5, e5, r5⟩ := hd_ 5 rfl
      obtain rfl : (.bool true : Value) = v5 := Eq.symm r5
      refine W.step [(10, _), (8, _)] (Sub.cons (e7 _ rfl) (Sub.cons (e5 _ rfl) (Sub.refl _))) ?_
      refine W.wants rfl rfl rfl rfl ?_
      refine W.fieldB (off := 1) (size := 1) (t := 3) (Fld.of (by kernel_rfl)) rfl rfl rfl ?_
      refine W.nil ?_
      exact At.step (Ext.refl _) rfl
    refine And.intro ?_ ?_
    · intro L_ w1 hX_ hs_ hf_ hd_
      obtain ⟨v8, e8, r8⟩ := hd_ 8 rfl
      obtain rfl : (.pointer (some ⟨g, 1, none⟩) : Value) = v8 := Eq.symm r8
      obtain ⟨v5, e5, r5⟩ := hd_ 5 rfl
      obtain rfl : (.bool true : Value) = v5 := Eq.symm r5
      refine W.step [(11, _), (8, _)] (Sub.cons (e8 _ rfl) (Sub.cons (e5 _ rfl) (Sub.refl _))) ?_
      refine W.wants rfl rfl rfl rfl ?_
      refine W.loadB rfl Try.underlying3 rfl (by first | exact Bk.ext (by assumption) hX_ | exact GP.bkOld hX_ (by assumption) (by omega) (by omega) | exact Bk.chg (by assumption) hX_.1 (by omega) | exact Bk.chg (by assumption) hX_ (by rintro ⟨q_, h1_, h2_, h3_⟩; omega)) rfl rfl ?_
      refine W.nil ?_
      exact At.step (Ext.refl _) rfl
    refine And.intro ?_ ?_
    · intro L_ w1 hX_ hs_ hf_ hd_
      obtain ⟨v5, e5, r5⟩ := hd_ 5 rfl
      obtain rfl : (.bool true : Value) = v5 := Eq.symm r5
      refine W.step [(0, _), (8, _)] (Sub.cons (hs_ _ _ rfl) (Sub.cons (e5 _ rfl) (Sub.refl _))) ?_
      refine W.wants rfl rfl rfl rfl ?_
      refine W.move rfl rfl ?_
      refine W.nil ?_
      exact At.step (Ext.refl _) rfl
    refine And.intro ?_ ?_
    · intro L_ w1 hX_ hs_ hf_ hd_
      obtain ⟨v10, e10, r10⟩ := hd_ 10 rfl
      obtain rfl : (.pointer (some ⟨g, 0, none⟩) : Value) = v10 := Eq.symm r10
      obtain ⟨v5, e5, r5⟩ := hd_ 5 rfl
      obtain rfl : (.bool true : Value) = v5 := Eq.symm r5
      refine W.step [(13, _), (8, _)] (Sub.cons (e10 _ rfl) (Sub.cons (e5 _ rfl) (Sub.refl _))) ?_
      refine W.wants rfl rfl rfl rfl ?_
      refine W.nilCheck rfl rfl ?_
      refine W.nil ?_
      exact At.step (Ext.refl _) rfl
    refine And.intro ?_ ?_
    · intro L_ w1 hX_ hs_ hf_ hd_
      obtain ⟨v11, e11, r11⟩ := hd_ 11 rfl
      obtain rfl : (.pointer (some ⟨g, 0, none⟩) : Value) = v11 := Eq.symm r11
      obtain ⟨v5, e5, r5⟩ := hd_ 5 rfl
      obtain rfl : (.bool true : Value) = v5 := Eq.symm r5
      refine W.step [(14, _), (8, _)] (Sub.cons (e11 _ rfl) (Sub.cons (e5 _ rfl) (Sub.refl _))) ?_
      refine W.wants rfl rfl rfl rfl ?_
      refine W.fieldB (off := 0) (size := 1) (t := 24) (Fld.of (by kernel_rfl)) rfl rfl rfl ?_
      refine W.nil ?_
      exact At.step (Ext.refl _) rfl
    refine And.intro ?_ ?_
    · intro L_ w1 hX_ hs_ hf_ hd_
      obtain ⟨v12, e12, r12⟩ := hd_ 12 rfl
      obtain rfl : (.pointer (some ⟨g, 0, none⟩) : Value) = v12 := Eq.symm r12
      obtain ⟨v5, e5, r5⟩ := hd_ 5 rfl
      obtain rfl : (.bool true : Value) = v5 := Eq.symm r5
      refine W.step [(15, _), (8, _)] (Sub.cons (e12 _ rfl) (Sub.cons (e5 _ rfl) (Sub.refl _))) ?_
      refine W.wants rfl rfl rfl rfl ?_
      refine W.loadB rfl Try.underlying24 rfl (by first | exact Bk.ext (by assumption) hX_ | exact GP.bkOld hX_ (by assumption) (by omega) (by omega) | exact Bk.chg (by assumption) hX_.1 (by omega) | exact Bk.chg (by assumption) hX_ (by rintro ⟨q_, h1_, h2_, h3_⟩; omega)) rfl rfl ?_
      refine W.nil ?_
      exact At.step (Ext.refl _) rfl
    refine And.intro ?_ ?_
    · intro L_ w1 hX_ hs_ hf_ hd_
      obtain ⟨v13, e13, r13⟩ := hd_ 13 rfl
      obtain rfl : (.slice q b.length c : Value) = v13 := Eq.symm r13
      obtain ⟨v5, e5, r5⟩ := hd_ 5 rfl
      obtain rfl : (.bool true : Value) = v5 := Eq.symm r5
      refine W.step [(16, _), (8, _)] (Sub.cons (e13 _ rfl) (Sub.cons (e5 _ rfl) (Sub.refl _))) ?_
      refine W.wants rfl rfl rfl rfl ?_
      refine W.lenS rfl Try.underlying24 rfl ?_
      refine W.nil ?_
      exact At.step (Ext.refl _) rfl
    refine And.intro ?_ ?_
    · intro L_ w1 hX_ hs_ hf_ hd_
      obtain ⟨v9, e9, r9⟩ := hd_ 9 rfl
      obtain rfl : (.int .i64 (p : Int) : Value) = v9 := Eq.symm r9
      obtain ⟨v14, e14, r14⟩ := hd_ 14 rfl
      obtain rfl : (.int .i64 (b.length : Int) : Value) = v14 := Eq.symm r14
      obtain ⟨v5, e5, r5⟩ := hd_ 5 rfl
      obtain rfl : (.bool true : Value) = v5 := Eq.symm r5
      refine W.step [(12, _), (17, _), (8, _)] (Sub.cons (e9 _ rfl) (Sub.cons (e14 _ rfl) (Sub.cons (e5 _ rfl) (Sub.refl _)))) ?_
      refine W.wants rfl rfl rfl rfl ?_
      refine W.neqI rfl rfl rfl ?_
      refine W.eqv (bT (by omega)) ?_
      refine W.nil ?_
      exact At.step (Ext.refl _) rfl
    refine And.intro ?_ ?_
    · intro L_ w1 hX_ hs_ hf_ hd_
      obtain ⟨v5, e5, r5⟩ := hd_ 5 rfl
      obtain rfl : (.bool true : Value) = v5 := Eq.symm r5
      obtain ⟨v15, e15, r15⟩ := hd_ 15 rfl
      obtain rfl : (.bool true : Value) = v15 := Eq.symm r15
      refine W.step [(8, _), (18, _)] (Sub.cons (e5 _ rfl) (Sub.cons (e15 _ rfl) (Sub.refl _))) ?_
      refine W.pickT rfl rfl rfl ?_
      refine W.nil ?_
      exact At.step (Ext.refl _) rfl
    exact trivial
  · intro L_ w1 hX1 hs_ hv_
    obtain ⟨v16, e16, r16⟩ := hv_ 16 (by decide)
    obtain rfl : (.bool true : Value) = v16 := Eq.symm r16
    refine W.weaken (l' := [(19, _), (0, _)]) (Sub.cons (e16 _ rfl) (Sub.cons (hs_ _ _ rfl) (Sub.nil))) ?_
    refine W.nil ?_
    refine At.thenCode ?_
    refine C.condT rfl ?_
    refine C.region ?_
    refine W.move rfl rfl ?_
    have h1 := h.ext hX1
    refine W.call Try.call93 rfl (Cod.Rfail_ok _ _ _ _ _ _ _ (by assumption) (by decide) (by decide)) rfl ?_
    rintro v21 w21 ⟨rfl, hP21⟩
    obtain ⟨p2, hB2, _, _⟩ := hP21.rdr.e
    refine W.nil ?_
    refine At.thenCode ?_
    refine C.seq ?_
    refine C.region ?_
    refine W.move rfl rfl ?_
    refine W.nilCheck rfl rfl ?_
    refine W.fieldB (off := 2) (size := 1) (t := 3) (Fld.of (by kernel_rfl)) rfl rfl rfl ?_
    refine W.loadB rfl Try.underlying3 rfl (by assumption) rfl rfl ?_
    refine W.assign rfl rfl ?_
    refine W.nil ?_
    refine At.thenCode ?_
    refine C.ret ?_
    refine At.ret1 Try.results83 rfl ?_
    exact ⟨rfl, (Chg.mono hX1 fun k hk => hk.elim).trans hP21.chg⟩
theorem Rend_ok (g : Nat) (q : Option Addr) (c : Nat) (b : List UInt8) (s : St) (w : World) (h : Rdr w g q c b s) :
    Ct Try.prog 83 #[.pointer (some ⟨g, 0, none⟩)] w (fun v w' => v = .int .i64 (overS s : Int) ∧ Chg (fun k => k = g) w w') := by
  obtain ⟨p, e, hB, hp, he, rfl⟩ := h.out
  by_cases h0 : e = 0
  · subst h0
    rw [if_pos rfl] at h ⊢
    by_cases hs : p = b.length
    · subst hs
      have e : overS (0, b.drop b.length) = 0 := by unfold overS; simp
      rw [e]
      exact endB g q c b w hB
    · have hne : b.drop p ≠ [] := by intro hc; have := congrArg List.length hc; rw [List.length_drop] at this; simp at this; omega
      have e : overS (0, b.drop p) = 2 := by unfold overS; simp [hne]
      rw [e]
      exact endC g q c b p w h hB (by omega)
  · rw [if_neg h0] at h ⊢
    have e' : overS (e, ([] : List UInt8)) = e := by unfold overS; simp [h0]
    rw [e']
    exact endA g q c b p e w hB h0
/-- A key's bytes, the first i of them filled in. -/
theorem key_fill {xs : List UInt8} {i : Nat} (h : xs.length ≤ 32) (hi : i < xs.length) (pre : List Value) : (pre ++ (fillB (xs ++ List.replicate (32 - xs.length) 0) 32 i).map byteV).set (pre.length + i) (byteV (xs[i]'hi)) = pre ++ (fillB (xs ++ List.replicate (32 - xs.length) 0) 32 (i + 1)).map byteV := by
  rw [List.set_append_right _ _ (by omega), show pre.length + i - pre.length = i by omega]
  have hl : (xs ++ List.replicate (32 - xs.length) (0 : UInt8)).length = 32 := by simp; omega
  have := fillB_setV hl (show i < 32 by omega)
  rw [List.getElem_append_left hi] at this
  rw [this]
theorem key_full {xs : List UInt8} (h : xs.length ≤ 32) : fillB (xs ++ List.replicate (32 - xs.length) 0) 32 xs.length = xs ++ List.replicate (32 - xs.length) 0 := by
  unfold fillB
  rw [List.take_left]
end Go.Proofs.Ytkjmllohbohliaa.Cod
