/- Package mailbox: settling and keeping. -/
import Derived.Test.YthiijdbiikljpaaMb2
namespace Go.Proofs.Ythiijdbiikljpaa.Mbx
open Go Go.RowKit Go.Proofs.Ythiijdbiikljpaa.KW Go.Proofs.Ythiijdbiikljpaa.Words Go.Proofs.Ythiijdbiikljpaa.Sha Go.Proofs.Ythiijdbiikljpaa.RSha Go.Proofs.Ythiijdbiikljpaa.Grp Go.Proofs.Ythiijdbiikljpaa.Cod Go.Proofs.Ythiijdbiikljpaa.Disk
set_option linter.unusedVariables false
set_option linter.unusedSimpArgs false
set_option maxRecDepth 100000
theorem cut_len (D : Dsk) (n : Int) : (cutD D n).bs.length ≤ D.bs.length := by
  unfold cutD
  show List.length _ ≤ _
  split
  · exact Nat.le_refl _
  · rw [List.length_take]; omega
theorem app_len (D : Dsk) (b : List UInt8) : (appD D b).bs.length ≤ D.bs.length + b.length := by
  unfold appD
  show List.length _ ≤ _
  split
  · exact Nat.le_add_right _ _
  · rw [List.length_append]; exact Nat.le_refl _
theorem settle_len (B : Box) : (settleB B).D.bs.length ≤ B.D.bs.length := by
  unfold settleB
  split
  · exact Nat.le_refl _
  · exact cut_len _ _
theorem settle_owed {B : Box} {k : Nat} (h : ∀ n, B.owed = some n → n ≤ k) : ∀ n, (settleB B).owed = some n → n ≤ k := by
  intro n hn
  unfold settleB at hn
  cases ho : B.owed with
  | none => rw [ho] at hn; simp only at hn; exact h n hn
  | some m =>
    rw [ho] at hn
    simp only at hn
    split at hn
    · cases hn
    · obtain rfl := Option.some.inj hn; exact h m ho
theorem Bk.same {w : World} {g : Nat} {cs cs' : List Value} (h : Bk w g cs) (h' : Bk w g cs') : cs = cs' := by
  obtain ⟨e, h⟩ := h
  obtain ⟨e', h'⟩ := h'
  rw [h] at h'
  injection h' with h'
  injection h' with h1 h2
  simpa using congrArg Array.toList h1
/-- What a call on a store and its disk leaves. -/
structure Kept (F Fd : Nat → Prop) (g dg : Nat) (rv : Int) (B : Box) (w w' : World) : Prop where
  out : ∃ Fd' : Nat → Prop, Dk w' Fd' dg rv B.D ∧ (∀ k, Fd' k → Fd k ∨ w.heap.size ≤ k)
  st : St w' F g dg B.s B.owed
  chg : Chg (fun k => k = g ∨ Fd k) w w'
theorem settle_ok (F Fd : Nat → Prop) (g dg : Nat) (rv : Int) (B : Box) (w : World) (hS : St w F g dg B.s B.owed) (hD : Dk w Fd dg rv B.D) (hd : ∀ k, F k → ¬ Fd k) :
    Ct Try.prog 53 #[.pointer (some ⟨g, 0, none⟩)] w (fun v w' => v = .int .i64 (settleE B : Int) ∧ Kept F Fd g dg rv (settleB B) w w') := by
  obtain ⟨mg, lg, X, es1, c1, es2, c2, h1, h2, h3, h4, h5⟩ := hS.out
  have hok := hS.ok.2.2
  refine Ct.enter [(0, .pointer (some ⟨g, 0, none⟩))] Try.func53 rfl rfl rfl rfl ?_
  refine C.seq ?_
  refine C.region ?_
  refine W.assign rfl rfl ?_
  refine W.nil ?_
  refine At.thenCode ?_
  refine C.seq ?_
  refine C.seq ?_
  refine C.region ?_
  refine W.move rfl rfl ?_
  refine W.nilCheck rfl rfl ?_
  refine W.fieldB (off := 4) (size := 1) (t := 3) (Fld.of (by kernel_rfl)) rfl rfl rfl ?_
  refine W.loadB rfl Try.underlying3 rfl (by assumption) rfl rfl ?_
  refine W.eqlI rfl rfl rfl ?_
  refine W.nil ?_
  refine At.thenCode ?_
  first | refine C.condD rfl (fun c8 => ?_) (fun c8 => ?_) | refine C.cond rfl (fun c8 => ?_) (fun c8 => ?_)
  · have ho : B.owed = none := by
      cases ho : B.owed with
      | none => rfl
      | some n => rw [ho] at c8; unfold owedI at c8; simp only at c8; omega
    refine C.seq ?_
    refine C.region ?_
    refine W.assign rfl rfl ?_
    refine W.nil ?_
    refine At.thenCode ?_
    refine C.ret ?_
    refine At.thenRet ?_
    refine At.ret1 Try.results53 rfl ?_
    refine ⟨by unfold settleE; rw [ho]; rfl, ?_⟩
    have hset : settleB B = B := by unfold settleB; rw [ho]
    rw [hset]
    exact ⟨⟨Fd, hD, fun k hk => Or.inl hk⟩, hS, Chg.refl _ _⟩
  · obtain ⟨n, ho⟩ : ∃ n, B.owed = some n := by
      cases ho : B.owed with
      | none => rw [ho] at c8; exact absurd rfl c8
      | some n => exact ⟨n, rfl⟩
    have hn := hok n ho
    have hset : settleB B = ⟨cutD B.D (n : Nat), B.s, if cutE B.D (n : Nat) = 0 then none else some n⟩ := by unfold settleB; rw [ho]
    have hsetE : settleE B = cutE B.D (n : Nat) := by unfold settleE; rw [ho]
    have h1' : Bk w g [.pointer (some ⟨dg, 0, none⟩), .map (some mg), .map (some lg), .int .i64 (B.s.past : Int), .int .i64 (n : Int)] := by have := h1; rw [ho] at this; exact this
    refine C.skip ?_
    refine At.thenCode ?_
    refine C.seq ?_
    refine C.regionAny 8 ((fun v w => v = .pointer (some ⟨g, 0, none⟩)) :: (fun v w => v = .pointer (some ⟨g, 0, none⟩)) :: (fun v w => v = .pointer (some ⟨g, 0, none⟩)) :: (fun v w => v = .pointer (some ⟨dg, 0, none⟩)) :: (fun v w => v = .pointer (some ⟨g, 0, none⟩)) :: (fun v w => v = .pointer (some ⟨g, 0, none⟩)) :: (fun v w => v = .pointer (some ⟨g, 4, none⟩)) :: (fun v w => v = .int .i64 (n : Int)) :: []) [(0, .pointer (some ⟨g, 0, none⟩))] [] (Sub.cons (rfl) (Sub.nil)) (Sub.nil) (Sub.cons (rfl) (Sub.nil)) (by kernel_rfl) rfl rfl rfl (And.intro (fun _ _ _ h _ => h) (And.intro (fun _ _ _ h _ => h) (And.intro (fun _ _ _ h _ => h) (And.intro (fun _ _ _ h _ => h) (And.intro (fun _ _ _ h _ => h) (And.intro (fun _ _ _ h _ => h) (And.intro (fun _ _ _ h _ => h) (And.intro (fun _ _ _ h _ => h) (trivial))))))))) ?_ ?_
    · refine And.intro ?_ ?_
      · intro L_ wr hX_ hs_ hf_ hd_
        refine W.step [(0, _)] (Sub.cons (hs_ _ _ rfl) (Sub.refl _)) ?_
        refine W.move rfl rfl ?_
        refine W.nil ?_
        exact At.step (Ext.refl _) rfl
      refine And.intro ?_ ?_
      · intro L_ wr hX_ hs_ hf_ hd_
        obtain ⟨v0, e0, r0⟩ := hd_ 0 rfl
        obtain rfl : (.pointer (some ⟨g, 0, none⟩) : Value) = v0 := Eq.symm r0
        refine W.step [(9, _)] (Sub.cons (e0 _ rfl) (Sub.refl _)) ?_
        refine W.nilCheck rfl rfl ?_
        refine W.nil ?_
        exact At.step (Ext.refl _) rfl
      refine And.intro ?_ ?_
      · intro L_ wr hX_ hs_ hf_ hd_
        obtain ⟨v1, e1, r1⟩ := hd_ 1 rfl
        obtain rfl : (.pointer (some ⟨g, 0, none⟩) : Value) = v1 := Eq.symm r1
        refine W.step [(10, _)] (Sub.cons (e1 _ rfl) (Sub.refl _)) ?_
        refine W.fieldB (off := 0) (size := 1) (t := 24) (Fld.of (by kernel_rfl)) rfl rfl rfl ?_
        refine W.nil ?_
        exact At.step (Ext.refl _) rfl
      refine And.intro ?_ ?_
      · intro L_ wr hX_ hs_ hf_ hd_
        obtain ⟨v2, e2, r2⟩ := hd_ 2 rfl
        obtain rfl : (.pointer (some ⟨g, 0, none⟩) : Value) = v2 := Eq.symm r2
        refine W.step [(11, _)] (Sub.cons (e2 _ rfl) (Sub.refl _)) ?_
        refine W.loadB (v := .pointer (some ⟨dg, 0, none⟩)) rfl Try.underlying24 rfl (h1'.ext hX_) rfl rfl ?_
        refine W.nil ?_
        exact At.step (Ext.refl _) rfl
      refine And.intro ?_ ?_
      · intro L_ wr hX_ hs_ hf_ hd_
        refine W.step [(0, _)] (Sub.cons (hs_ _ _ rfl) (Sub.refl _)) ?_
        refine W.move rfl rfl ?_
        refine W.nil ?_
        exact At.step (Ext.refl _) rfl
      refine And.intro ?_ ?_
      · intro L_ wr hX_ hs_ hf_ hd_
        obtain ⟨v4, e4, r4⟩ := hd_ 4 rfl
        obtain rfl : (.pointer (some ⟨g, 0, none⟩) : Value) = v4 := Eq.symm r4
        refine W.step [(13, _)] (Sub.cons (e4 _ rfl) (Sub.refl _)) ?_
        refine W.nilCheck rfl rfl ?_
        refine W.nil ?_
        exact At.step (Ext.refl _) rfl
      refine And.intro ?_ ?_
      · intro L_ wr hX_ hs_ hf_ hd_
        obtain ⟨v5, e5, r5⟩ := hd_ 5 rfl
        obtain rfl : (.pointer (some ⟨g, 0, none⟩) : Value) = v5 := Eq.symm r5
        refine W.step [(14, _)] (Sub.cons (e5 _ rfl) (Sub.refl _)) ?_
        refine W.fieldB (off := 4) (size := 1) (t := 3) (Fld.of (by kernel_rfl)) rfl rfl rfl ?_
        refine W.nil ?_
        exact At.step (Ext.refl _) rfl
      refine And.intro ?_ ?_
      · intro L_ wr hX_ hs_ hf_ hd_
        obtain ⟨v6, e6, r6⟩ := hd_ 6 rfl
        obtain rfl : (.pointer (some ⟨g, 4, none⟩) : Value) = v6 := Eq.symm r6
        refine W.step [(15, _)] (Sub.cons (e6 _ rfl) (Sub.refl _)) ?_
        refine W.loadB (v := .int .i64 (n : Int)) rfl Try.underlying3 rfl (h1'.ext hX_) rfl rfl ?_
        refine W.nil ?_
        exact At.step (Ext.refl _) rfl
      exact trivial
    · intro L_ wr hX3 hs_ hv_
      obtain ⟨v3, e3, r3⟩ := hv_ 3 (by decide)
      obtain rfl : (.pointer (some ⟨dg, 0, none⟩) : Value) = v3 := Eq.symm r3
      obtain ⟨v7, e7, r7⟩ := hv_ 7 (by decide)
      obtain rfl : (.int .i64 (n : Int) : Value) = v7 := Eq.symm r7
      refine W.weaken (l' := [(12, _), (16, _), (0, _)]) (Sub.cons (e3 _ rfl) (Sub.cons (e7 _ rfl) (Sub.cons (hs_ _ _ rfl) (Sub.nil)))) ?_
      have hDr := hD.ext hX3
      refine W.call Try.call23 rfl (Disk.Cut_ok Fd dg rv B.D n _ hDr) rfl ?_
      rintro v17 w17 ⟨rfl, hD17, hC17⟩
      have hX3' := hX3
      have hs3 := hX3'.size
      have hC' : Chg (fun k => k = g ∨ Fd k) w w17 := (hX3'.mono fun _ c => c.elim).trans (hC17.mono fun k hk => Or.inr hk)
      have hS17 := (hS.ext hX3').chg hC17 fun k hk hk' => hd k hk hk'
      have h1b : Bk w17 g [.pointer (some ⟨dg, 0, none⟩), .map (some mg), .map (some lg), .int .i64 (B.s.past : Int), .int .i64 (n : Int)] := (h1'.ext hX3').chg hC17 (hd g hS.own)
      have hlt17 := hD17.lt
      refine W.assign rfl rfl ?_
      refine W.nil ?_
      refine At.thenCode ?_
      refine C.seq ?_
      refine C.seq ?_
      refine C.region ?_
      refine W.move rfl rfl ?_
      refine W.eqlI rfl rfl rfl ?_
      refine W.nil ?_
      refine At.thenCode ?_
      first | refine C.condD rfl (fun c19 => ?_) (fun c19 => ?_) | refine C.cond rfl (fun c19 => ?_) (fun c19 => ?_)
      · refine C.region ?_
        refine W.move rfl rfl ?_
        refine W.nilCheck rfl rfl ?_
        refine W.fieldB (off := 4) (size := 1) (t := 3) (Fld.of (by kernel_rfl)) rfl rfl rfl ?_
        refine W.store1 rfl rfl rfl h1b (by simp) (by kernel_rfl) ?_
        intro wz hcz hBz
        refine W.nil ?_
        refine At.thenCode ?_
        refine C.seq ?_
        refine C.region ?_
        refine W.move rfl rfl ?_
        refine W.assign rfl rfl ?_
        refine W.nil ?_
        refine At.thenCode ?_
        refine C.ret ?_
        refine At.ret1 Try.results53 rfl ?_
        have hce : cutE B.D (n : Nat) = 0 := by omega
        rw [hset, hsetE, if_pos hce]
        refine ⟨rfl, ⟨Grown Fd wr w17, hD17.chg hcz (fun k hk hkg => ?_), fun k hk => hk.imp id fun h => Nat.le_trans hs3 h.1⟩, ?_, ?_⟩
        · subst hkg
          rcases hk with hk | hk
          · exact hd k hS.own hk
          · have := hS.lt k hS.own; omega
        · refine hS17.cell hcz (fun mg' lg' hB' => ?_) (fun m hm => by cases hm)
          have e := Bk.same hB' h1b
          unfold stC at e
          simp only [List.cons.injEq, Value.map.injEq, Option.some.injEq, and_true, true_and] at e
          obtain ⟨rfl, rfl, _⟩ := e
          exact hBz
        · exact hC'.trans (hcz.mono fun k hk => Or.inl hk)
      · refine C.skip ?_
        refine At.thenCode ?_
        refine C.seq ?_
        refine C.region ?_
        refine W.move rfl rfl ?_
        refine W.assign rfl rfl ?_
        refine W.nil ?_
        refine At.thenCode ?_
        refine C.ret ?_
        refine At.ret1 Try.results53 rfl ?_
        have hce : ¬ cutE B.D (n : Nat) = 0 := by omega
        rw [hset, hsetE, if_neg hce]
        refine ⟨rfl, ⟨Grown Fd wr w17, hD17, fun k hk => hk.imp id fun h => Nat.le_trans hs3 h.1⟩, ?_, hC'⟩
        rw [ho] at hS17
        exact hS17
theorem Kept.sets {F Fd : Nat → Prop} {g dg : Nat} {rv : Int} {B : Box} {w w' : World} (h : Kept F Fd g dg rv B w w') (hlt : ∀ k, F k → k < w.heap.size) (hd : ∀ k, F k → ¬ Fd k) : ∃ Fd' : Nat → Prop, Dk w' Fd' dg rv B.D ∧ (∀ k, Fd' k → Fd k ∨ w.heap.size ≤ k) ∧ (∀ k, F k → ¬ Fd' k) := by
  obtain ⟨Fd', h1, h2⟩ := h.out
  refine ⟨Fd', h1, h2, fun k hk hk' => ?_⟩
  rcases h2 k hk' with h3 | h3
  · exact hd k hk h3
  · have := hlt k hk; omega
theorem Kept.then {F Fd Fd1 : Nat → Prop} {g dg : Nat} {rv : Int} {B' : Box} {w w1 w' : World} (hs : w.heap.size ≤ w1.heap.size) (hc : Chg (fun k => k = g ∨ Fd k) w w1) (h1 : ∀ k, Fd1 k → Fd k ∨ w.heap.size ≤ k) (h : Kept F Fd1 g dg rv B' w1 w') : Kept F Fd g dg rv B' w w' := by
  obtain ⟨Fd', h2, h3⟩ := h.out
  refine ⟨⟨Fd', h2, fun k hk => ?_⟩, h.st, hc.news h.chg fun k hk => ?_⟩
  · rcases h3 k hk with h4 | h4
    · exact h1 k h4
    · exact Or.inr (by omega)
  · rcases hk with hk | hk
    · exact Or.inl (Or.inl hk)
    · rcases h1 k hk with h4 | h4
      · exact Or.inl (Or.inr h4)
      · exact Or.inr h4
theorem putE_eq {D : Dsk} {x : List UInt8} (h : appE D (recB x) = 0) : putE D x = synE (appD D (recB x)) ∧ putD D x = synD (appD D (recB x)) := ⟨if_pos h, if_pos h⟩
theorem putE_ne {D : Dsk} {x : List UInt8} (h : ¬ appE D (recB x) = 0) : putE D x = appE D (recB x) ∧ putD D x = appD D (recB x) := ⟨if_neg h, if_neg h⟩
theorem keep_ok (F Fd : Nat → Prop) (g dg : Nat) (rv : Int) (B : Box) (ax : Option Addr) (cx : Nat) (x : List UInt8) (w : World) (hS : St w F g dg B.s B.owed) (hD : Dk w Fd dg rv B.D) (hd : ∀ k, F k → ¬ Fd k) (hrv : 0 ≤ rv) (hx : Bs w ax cx x) (hxn : ∀ ad, ax = some ad → x ≠ [] → ¬ (ad.block = g ∨ Fd ad.block)) (hxl : x.length ≤ 1000000) (hDl : B.D.bs.length ≤ 1000000000) :
    Ct Try.prog 32 #[.pointer (some ⟨g, 0, none⟩), .slice ax x.length cx] w (fun v w' => v = .int .i64 (keepE B x : Int) ∧ Kept F Fd g dg rv (keepB B x) w w') := by
  obtain ⟨mg, lg, X, es1, c1, es2, c2, h1, h2, h3, h4, h5⟩ := hS.out
  have h1' : Bk w g [.pointer (some ⟨dg, 0, none⟩), .map (some mg), .map (some lg), .int .i64 (B.s.past : Int), .int .i64 (owedI B.owed)] := h1
  refine Ct.enter [(0, .pointer (some ⟨g, 0, none⟩)), (1, .slice ax x.length cx)] Try.func32 rfl rfl rfl rfl ?_
  refine C.seq ?_
  refine C.region ?_
  refine W.assign rfl rfl ?_
  refine W.nil ?_
  refine At.thenCode ?_
  refine C.seq ?_
  refine C.seq ?_
  refine C.region ?_
  refine W.move rfl rfl ?_
  refine W.nilCheck rfl rfl ?_
  refine W.fieldB (off := 0) (size := 1) (t := 24) (Fld.of (by kernel_rfl)) rfl rfl rfl ?_
  refine W.loadB rfl Try.underlying24 rfl (by assumption) rfl rfl ?_
  refine W.eqlPtr rfl rfl rfl rfl ?_
  refine W.nil ?_
  refine At.thenCode ?_
  refine C.condF rfl ?_
  refine C.skip ?_
  refine At.thenCode ?_
  refine C.seq ?_
  refine C.seq ?_
  refine C.region ?_
  refine W.move rfl rfl ?_
  refine W.call Try.call53 rfl (Mbx.settle_ok F Fd g dg rv B _ hS hD hd) rfl ?_
  rintro v14 w14 ⟨rfl, hK14⟩
  refine W.assign rfl rfl ?_
  refine W.nil ?_
  refine At.thenCode ?_
  refine C.seq ?_
  refine C.region ?_
  refine W.move rfl rfl ?_
  refine W.neqI rfl rfl rfl ?_
  refine W.nil ?_
  refine At.thenCode ?_
  first | refine C.condD rfl (fun c16 => ?_) (fun c16 => ?_) | refine C.cond rfl (fun c16 => ?_) (fun c16 => ?_)
  · have hse : ¬ settleE B = 0 := by omega
    refine C.seq ?_
    refine C.region ?_
    refine W.move rfl rfl ?_
    refine W.assign rfl rfl ?_
    refine W.nil ?_
    refine At.thenCode ?_
    refine C.ret ?_
    refine At.thenRet ?_
    refine At.ret1 Try.results32 rfl ?_
    have hke : keepE B x = settleE B := by unfold keepE; rw [if_neg hse]
    have hkb : keepB B x = settleB B := by unfold keepB; rw [if_neg hse]
    rw [hke, hkb]
    exact ⟨rfl, hK14⟩
  · have hse : settleE B = 0 := by omega
    have hke : keepE B x = putE (settleB B).D x := by unfold keepE; rw [if_pos hse]
    have hkb : keepB B x = putB (settleB B) x := by unfold keepB; rw [if_pos hse]
    have how := settleB_owed hse
    have hss := settleB_s B
    have hs14 := hK14.chg.size
    obtain ⟨Fd1, hD14, hF14, hd14⟩ := hK14.sets hS.lt hd
    have hS14 := hK14.st
    have hx14 : Bs w14 ax cx x := Sl.chg hx hK14.chg fun ad e hne => hxn ad e (fun h => hne (by rw [h]; rfl))
    have hDl1 := settle_len B
    obtain ⟨B1, hB1⟩ : ∃ B1, B1 = settleB B := ⟨_, rfl⟩
    rw [← hB1] at hke hkb how hss hD14 hS14 hDl1
    obtain ⟨mg1, lg1, X1, es11, c11, es21, c21, h11, h21, h31, h41, h51⟩ := hS14.out
    have h11' : Bk w14 g [.pointer (some ⟨dg, 0, none⟩), .map (some mg1), .map (some lg1), .int .i64 (B1.s.past : Int), .int .i64 (owedI B1.owed)] := h11
    refine C.skip ?_
    refine At.thenCode ?_
    refine C.seq ?_
    refine C.region ?_
    refine W.move rfl rfl ?_
    refine W.nilCheck rfl rfl ?_
    refine W.fieldB (off := 0) (size := 1) (t := 24) (Fld.of (by kernel_rfl)) rfl rfl rfl ?_
    refine W.loadB rfl Try.underlying24 rfl (by assumption) rfl rfl ?_
    refine W.call Try.call54 rfl (Mbx.dLen_ok Fd1 dg rv B1.D _ hD14) rfl ?_
    rintro v22 w22 ⟨rfl, rfl⟩
    refine W.assign rfl rfl ?_
    refine W.nil ?_
    refine At.thenCode ?_
    refine C.seq ?_
    refine C.regionAny 6 ((fun v w => v = .pointer (some ⟨g, 0, none⟩)) :: (fun v w => v = .pointer (some ⟨g, 0, none⟩)) :: (fun v w => v = .pointer (some ⟨g, 0, none⟩)) :: (fun v w => v = .pointer (some ⟨dg, 0, none⟩)) :: (fun v w => v = .slice ax x.length cx) :: (fun v w => ∃ ao c', v = .slice ao (recB x).length c' ∧ Bs w ao c' (recB x) ∧ ∀ ad, ao = some ad → w14.heap.size ≤ ad.block) :: []) [(0, .pointer (some ⟨g, 0, none⟩)), (1, .slice ax x.length cx), (6, .int .i64 (B1.D.bs.length : Int))] [] (Sub.cons (rfl) (Sub.cons (rfl) (Sub.cons (rfl) (Sub.nil)))) (Sub.nil) (Sub.cons (rfl) (Sub.cons (rfl) (Sub.cons (rfl) (Sub.nil)))) (by kernel_rfl) rfl rfl rfl (And.intro (fun _ _ _ h _ => h) (And.intro (fun _ _ _ h _ => h) (And.intro (fun _ _ _ h _ => h) (And.intro (fun _ _ _ h _ => h) (And.intro (fun _ _ _ h _ => h) (And.intro (fun _ _ _ ⟨a, c, e, h, q⟩ g => ⟨a, c, e, Sl.ext h g, q⟩) (trivial))))))) ?_ ?_
    · refine And.intro ?_ ?_
      · intro L_ wr hX_ hs_ hf_ hd_
        refine W.step [(0, _)] (Sub.cons (hs_ _ _ rfl) (Sub.refl _)) ?_
        refine W.move rfl rfl ?_
        refine W.nil ?_
        exact At.step (Ext.refl _) rfl
      refine And.intro ?_ ?_
      · intro L_ wr hX_ hs_ hf_ hd_
        obtain ⟨v0, e0, r0⟩ := hd_ 0 rfl
        obtain rfl : (.pointer (some ⟨g, 0, none⟩) : Value) = v0 := Eq.symm r0
        refine W.step [(23, _)] (Sub.cons (e0 _ rfl) (Sub.refl _)) ?_
        refine W.nilCheck rfl rfl ?_
        refine W.nil ?_
        exact At.step (Ext.refl _) rfl
      refine And.intro ?_ ?_
      · intro L_ wr hX_ hs_ hf_ hd_
        obtain ⟨v1, e1, r1⟩ := hd_ 1 rfl
        obtain rfl : (.pointer (some ⟨g, 0, none⟩) : Value) = v1 := Eq.symm r1
        refine W.step [(24, _)] (Sub.cons (e1 _ rfl) (Sub.refl _)) ?_
        refine W.fieldB (off := 0) (size := 1) (t := 24) (Fld.of (by kernel_rfl)) rfl rfl rfl ?_
        refine W.nil ?_
        exact At.step (Ext.refl _) rfl
      refine And.intro ?_ ?_
      · intro L_ wr hX_ hs_ hf_ hd_
        obtain ⟨v2, e2, r2⟩ := hd_ 2 rfl
        obtain rfl : (.pointer (some ⟨g, 0, none⟩) : Value) = v2 := Eq.symm r2
        refine W.step [(25, _)] (Sub.cons (e2 _ rfl) (Sub.refl _)) ?_
        refine W.loadB (v := .pointer (some ⟨dg, 0, none⟩)) rfl Try.underlying24 rfl (h11'.ext hX_) rfl rfl ?_
        refine W.nil ?_
        exact At.step (Ext.refl _) rfl
      refine And.intro ?_ ?_
      · intro L_ wr hX_ hs_ hf_ hd_
        refine W.step [(1, _)] (Sub.cons (hs_ _ _ rfl) (Sub.refl _)) ?_
        refine W.move rfl rfl ?_
        refine W.nil ?_
        exact At.step (Ext.refl _) rfl
      refine And.intro ?_ ?_
      · intro L_ wr hX_ hs_ hf_ hd_
        obtain ⟨v4, e4, r4⟩ := hd_ 4 rfl
        obtain rfl : (.slice ax x.length cx : Value) = v4 := Eq.symm r4
        refine W.step [(27, _)] (Sub.cons (e4 _ rfl) (Sub.refl _)) ?_
        refine W.call Try.call56 rfl (Mbx.record_ok ax cx x _ (hx14.ext hX_) hxl) rfl ?_
        rintro v28 w28 ⟨ho28, hX28⟩
        obtain ⟨a28, c28, rfl, hS28, hq28⟩ := ownsRow_form ho28
        refine W.nil ?_
        exact At.step hX28 ⟨a28, c28, rfl, hS28, fun ad e => Nat.le_trans hX_.size (hq28 ad e)⟩
      exact trivial
    · intro L_ wr hX7 hs_ hv_
      obtain ⟨v3, e3, r3⟩ := hv_ 3 (by decide)
      obtain rfl : (.pointer (some ⟨dg, 0, none⟩) : Value) = v3 := Eq.symm r3
      obtain ⟨v5, e5, r5⟩ := hv_ 5 (by decide)
      obtain ⟨a5, c5, rfl, hb5, hq5⟩ := r5
      refine W.weaken (l' := [(26, _), (28, _), (0, _), (1, _), (6, _)]) (Sub.cons (e3 _ rfl) (Sub.cons (e5 _ rfl) (Sub.cons (hs_ _ _ rfl) (Sub.cons (hs_ _ _ rfl) (Sub.cons (hs_ _ _ rfl) (Sub.nil)))))) ?_
      have hXr := hX7
      have hsr := hXr.size
      refine W.call Try.call55 rfl (Disk.Append_ok Fd1 dg rv B1.D a5 c5 (recB x) _ (hD14.ext hXr) hrv hb5 (fun ad e _ hk => by have := hq5 ad e; have := hD14.lt _ hk; omega) (by rw [recB_length]; omega)) rfl ?_
      rintro v29 w29 ⟨rfl, hD29, hC29⟩
      have hs29 := hC29.size
      have hS29 := (hS14.ext hXr).chg hC29 hd14
      have hW29 : Chg (fun k => k = g ∨ Fd1 k) w14 w29 := (hXr.mono fun _ c => c.elim).trans (hC29.mono fun k hk => Or.inr hk)
      have hF29 : ∀ k, Grown Fd1 wr w29 k → Fd1 k ∨ w14.heap.size ≤ k := fun k hk => hk.imp id fun h => Nat.le_trans hsr h.1
      have hd29 : ∀ k, F k → ¬ Grown Fd1 wr w29 k := fun k hk hg => by
        rcases hF29 k hg with h | h
        · exact hd14 k hk h
        · have := hS14.lt k hk; omega
      obtain ⟨mg2, lg2, X2, es12, c12, es22, c22, h12, h22, h32, h42, h52⟩ := hS29.out
      have h12' : Bk w29 g [.pointer (some ⟨dg, 0, none⟩), .map (some mg2), .map (some lg2), .int .i64 (B1.s.past : Int), .int .i64 (owedI B1.owed)] := h12
      refine W.assign rfl rfl ?_
      refine W.nil ?_
      refine At.thenCode ?_
      refine C.seq ?_
      refine C.seq ?_
      refine C.region ?_
      refine W.move rfl rfl ?_
      refine W.eqlI rfl rfl rfl ?_
      refine W.nil ?_
      refine At.thenCode ?_
      first | refine C.condD rfl (fun c31 => ?_) (fun c31 => ?_) | refine C.cond rfl (fun c31 => ?_) (fun c31 => ?_)
      · have hae : appE B1.D (recB x) = 0 := by omega
        obtain ⟨hpe, hpd⟩ := putE_eq hae
        refine C.region ?_
        refine W.move rfl rfl ?_
        refine W.nilCheck rfl rfl ?_
        refine W.fieldB (off := 0) (size := 1) (t := 24) (Fld.of (by kernel_rfl)) rfl rfl rfl ?_
        refine W.loadB rfl Try.underlying24 rfl (by assumption) rfl rfl ?_
        refine W.call Try.call57 rfl (Disk.Sync_ok (Grown Fd1 wr w29) dg rv (appD B1.D (recB x)) _ hD29) rfl ?_
        rintro v36 w36 ⟨rfl, hD36, hC36⟩
        have hs36 := hC36.size
        have hDp := hD36
        rw [← hpd] at hDp
        rw [← hpe]
        have hSp := hS29.chg hC36 hd29
        have hWp : Chg (fun k => k = g ∨ Fd1 k) w14 w36 := hW29.news hC36 fun k hk => (hF29 k hk).imp (fun h => Or.inr h) id
        have hFp := hF29
        have hdp := hd29
        have h1p : Bk w36 g [.pointer (some ⟨dg, 0, none⟩), .map (some mg2), .map (some lg2), .int .i64 (B1.s.past : Int), .int .i64 (owedI B1.owed)] := h12'.chg hC36 (hd29 g hS14.own)
        refine W.assign rfl rfl ?_
        refine W.nil ?_
        refine At.thenCode ?_
        refine C.seq ?_
        refine C.seq ?_
        refine C.region ?_
        refine W.move rfl rfl ?_
        refine W.neqI rfl rfl rfl ?_
        refine W.nil ?_
        refine At.thenCode ?_
        first | refine C.condD rfl (fun c38 => ?_) (fun c38 => ?_) | refine C.cond rfl (fun c38 => ?_) (fun c38 => ?_)
        · have hne : ¬ putE B1.D x = 0 := by omega
          have hpb : putB B1 x = settleB ⟨putD B1.D x, B1.s, some B1.D.bs.length⟩ := by unfold putB; rw [if_neg hne]
          refine C.seq ?_
          refine C.region ?_
          refine W.move rfl rfl ?_
          refine W.move rfl rfl ?_
          refine W.nilCheck rfl rfl ?_
          refine W.fieldB (off := 4) (size := 1) (t := 3) (Fld.of (by kernel_rfl)) rfl rfl rfl ?_
          refine W.store1 rfl rfl rfl h1p (by simp) (by kernel_rfl) ?_
          intro wz hcz hBz
          have hSz : St wz F g dg B1.s (some B1.D.bs.length) := hSp.cell hcz (fun mg' lg' hB' => by
            have e := Bk.same hB' h1p
            unfold stC at e
            simp only [List.cons.injEq, Value.map.injEq, Option.some.injEq, and_true, true_and] at e
            obtain ⟨rfl, rfl, _⟩ := e
            exact hBz) (fun n hn => by obtain rfl := Option.some.inj hn; omega)
          have hDz := hDp.chg hcz fun k hk hkg => by subst hkg; exact hdp _ hS14.own hk
          have hWz : Chg (fun k => k = g ∨ Fd1 k) w14 wz := hWp.trans (hcz.mono fun k hk => Or.inl hk)
          refine W.nil ?_
          refine At.thenCode ?_
          refine C.region ?_
          refine W.move rfl rfl ?_
          refine W.call Try.call53 rfl (Mbx.settle_ok F _ g dg rv ⟨putD B1.D x, B1.s, some B1.D.bs.length⟩ _ hSz hDz hdp) rfl ?_
          rintro v44 w44 ⟨rfl, hK44⟩
          rw [← hpb] at hK44
          refine W.nil ?_
          refine At.thenCode ?_
          refine C.seq ?_
          refine C.region ?_
          refine W.move rfl rfl ?_
          refine W.assign rfl rfl ?_
          refine W.nil ?_
          refine At.thenCode ?_
          refine C.ret ?_
          refine At.ret1 Try.results32 rfl ?_
          rw [hke, hkb]
          exact ⟨rfl, Kept.then hs14 hK14.chg hF14 (Kept.then hWz.size hWz hFp hK44)⟩
        · have heq : putE B1.D x = 0 := by omega
          have hpb : putB B1 x = ⟨putD B1.D x, B1.s, none⟩ := by unfold putB; rw [if_pos heq]
          refine C.skip ?_
          refine At.thenCode ?_
          refine C.seq ?_
          refine C.region ?_
          refine W.move rfl rfl ?_
          refine W.assign rfl rfl ?_
          refine W.nil ?_
          refine At.thenCode ?_
          refine C.ret ?_
          refine At.ret1 Try.results32 rfl ?_
          rw [hke, hkb, hpb]
          rw [how] at hSp
          exact ⟨rfl, Kept.then hs14 hK14.chg hF14 ⟨⟨_, hDp, hFp⟩, hSp, hWp⟩⟩
      · have hae : ¬ appE B1.D (recB x) = 0 := by omega
        obtain ⟨hpe, hpd⟩ := putE_ne hae
        have hDp := hD29
        rw [← hpd] at hDp
        rw [← hpe]
        have hSp := hS29
        have hWp := hW29
        have hFp := hF29
        have hdp := hd29
        have h1p := h12'
        refine C.skip ?_
        refine At.thenCode ?_
        refine C.seq ?_
        refine C.seq ?_
        refine C.region ?_
        refine W.move rfl rfl ?_
        refine W.neqI rfl rfl rfl ?_
        refine W.nil ?_
        refine At.thenCode ?_
        first | refine C.condD rfl (fun c38 => ?_) (fun c38 => ?_) | refine C.cond rfl (fun c38 => ?_) (fun c38 => ?_)
        · have hne : ¬ putE B1.D x = 0 := by omega
          have hpb : putB B1 x = settleB ⟨putD B1.D x, B1.s, some B1.D.bs.length⟩ := by unfold putB; rw [if_neg hne]
          refine C.seq ?_
          refine C.region ?_
          refine W.move rfl rfl ?_
          refine W.move rfl rfl ?_
          refine W.nilCheck rfl rfl ?_
          refine W.fieldB (off := 4) (size := 1) (t := 3) (Fld.of (by kernel_rfl)) rfl rfl rfl ?_
          refine W.store1 rfl rfl rfl h1p (by simp) (by kernel_rfl) ?_
          intro wz hcz hBz
          have hSz : St wz F g dg B1.s (some B1.D.bs.length) := hSp.cell hcz (fun mg' lg' hB' => by
            have e := Bk.same hB' h1p
            unfold stC at e
            simp only [List.cons.injEq, Value.map.injEq, Option.some.injEq, and_true, true_and] at e
            obtain ⟨rfl, rfl, _⟩ := e
            exact hBz) (fun n hn => by obtain rfl := Option.some.inj hn; omega)
          have hDz := hDp.chg hcz fun k hk hkg => by subst hkg; exact hdp _ hS14.own hk
          have hWz : Chg (fun k => k = g ∨ Fd1 k) w14 wz := hWp.trans (hcz.mono fun k hk => Or.inl hk)
          refine W.nil ?_
          refine At.thenCode ?_
          refine C.region ?_
          refine W.move rfl rfl ?_
          refine W.call Try.call53 rfl (Mbx.settle_ok F _ g dg rv ⟨putD B1.D x, B1.s, some B1.D.bs.length⟩ _ hSz hDz hdp) rfl ?_
          rintro v44 w44 ⟨rfl, hK44⟩
          rw [← hpb] at hK44
          refine W.nil ?_
          refine At.thenCode ?_
          refine C.seq ?_
          refine C.region ?_
          refine W.move rfl rfl ?_
          refine W.assign rfl rfl ?_
          refine W.nil ?_
          refine At.thenCode ?_
          refine C.ret ?_
          refine At.ret1 Try.results32 rfl ?_
          rw [hke, hkb]
          exact ⟨rfl, Kept.then hs14 hK14.chg hF14 (Kept.then hWz.size hWz hFp hK44)⟩
        · have heq : putE B1.D x = 0 := by omega
          have hpb : putB B1 x = ⟨putD B1.D x, B1.s, none⟩ := by unfold putB; rw [if_pos heq]
          refine C.skip ?_
          refine At.thenCode ?_
          refine C.seq ?_
          refine C.region ?_
          refine W.move rfl rfl ?_
          refine W.assign rfl rfl ?_
          refine W.nil ?_
          refine At.thenCode ?_
          refine C.ret ?_
          refine At.ret1 Try.results32 rfl ?_
          exact absurd (hpe.symm.trans heq) hae
end Go.Proofs.Ythiijdbiikljpaa.Mbx
