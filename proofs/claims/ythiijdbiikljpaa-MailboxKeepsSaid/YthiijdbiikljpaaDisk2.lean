/- Package disk and the reference's disk: Append, Cut, Crash. -/
import Derived.Test.YthiijdbiikljpaaDisk
namespace Go.Proofs.Ythiijdbiikljpaa.Disk
open Go Go.RowKit Go.Proofs.Ythiijdbiikljpaa.KW Go.Proofs.Ythiijdbiikljpaa.Words
set_option linter.unusedVariables false
set_option linter.unusedSimpArgs false
set_option maxRecDepth 100000
theorem max0 {a b : Int} (h : max 0 a = b) (h0 : 0 ≤ a) : a = b := by omega
theorem Append_ok (F : Nat → Prop) (g : Nat) (rv : Int) (D : Dsk) (ap : Option Addr) (cp : Nat) (b : List UInt8) (w : World) (hD : Dk w F g rv D) (hrv : 0 ≤ rv) (hB : Bs w ap cp b) (hap : ∀ ad, ap = some ad → b ≠ [] → ¬ F ad.block) (hl : D.bs.length + b.length ≤ 10000000000) : Ct Try.prog 55 #[.pointer (some ⟨g, 0, none⟩), .slice ap b.length cp] w (fun v w' => v = .int .i64 (appE D b : Int) ∧ Dk w' (Grown F w w') g rv (appD D b) ∧ Chg F w w') := by
  refine Ct.enter [(0, .pointer (some ⟨g, 0, none⟩)), (1, .slice ap b.length cp)] Try.func55 rfl rfl rfl rfl ?_
  have hroom := max0 hD.room hrv
  have hfits := hD.ok.fits
  have hrvb := hD.rvb
  have hsml := hD.ok.small
  refine C.seq ?_
  refine C.region ?_
  refine W.assign rfl rfl ?_
  refine W.nil ?_
  refine At.thenCode ?_
  refine C.seq ?_
  refine C.seq ?_
  by_cases hf : failB D = true
  · refine C.regionAnyB (fun k b => k = 1 ∧ b = g) 17 ((fun v w => v = .pointer (some ⟨g, 0, none⟩)) :: (fun v w => v = .bool true ∧ Dk w F g rv (failD D)) :: (fun v w => v = .bool true) :: (fun v w => v = undef) :: (fun v w => v = undef) :: (fun v w => v = undef) :: (fun v w => v = undef) :: (fun v w => v = undef) :: (fun v w => v = undef) :: (fun v w => v = undef) :: (fun v w => v = undef) :: (fun v w => v = undef) :: (fun v w => v = undef) :: (fun v w => v = undef) :: (fun v w => v = undef) :: (fun v w => v = undef) :: (fun v w => v = .bool true) :: []) [(0, .pointer (some ⟨g, 0, none⟩)), (1, .slice ap b.length cp)] [] (Sub.cons (rfl) (Sub.cons (rfl) (Sub.nil))) (Sub.nil) (Sub.cons (rfl) (Sub.cons (rfl) (Sub.nil))) (by kernel_rfl) rfl rfl rfl (And.intro (fun _ _ _ h _ => h) (And.intro (fun _ _ _ ⟨hv, h⟩ g => ⟨hv, h.ext (FamPost.ext g (fun k q h1 h2 h3 => h1 h3.1))⟩) (And.intro (fun _ _ _ h _ => h) (And.intro (fun _ _ _ h _ => h) (And.intro (fun _ _ _ h _ => h) (And.intro (fun _ _ _ h _ => h) (And.intro (fun _ _ _ h _ => h) (And.intro (fun _ _ _ h _ => h) (And.intro (fun _ _ _ h _ => h) (And.intro (fun _ _ _ h _ => h) (And.intro (fun _ _ _ h _ => h) (And.intro (fun _ _ _ h _ => h) (And.intro (fun _ _ _ h _ => h) (And.intro (fun _ _ _ h _ => h) (And.intro (fun _ _ _ h _ => h) (And.intro (fun _ _ _ h _ => h) (And.intro (fun _ _ _ h _ => h) (trivial)))))))))))))))))) ?_ ?_
    · refine And.intro ?_ ?_
      · intro L_ w4 hX_ hs_ hf_ hd_
        refine W.step [(0, _)] (Sub.cons (hs_ _ _ rfl) (Sub.refl _)) ?_
        refine W.move rfl rfl ?_
        refine W.nil ?_
        exact At.stepF (Fam.ofExt (Ext.refl _)) rfl
      refine And.intro ?_ ?_
      · intro L_ w4 hX_ hs_ hf_ hd_
        obtain ⟨v0, e0, r0⟩ := hd_ 0 rfl
        obtain rfl : (.pointer (some ⟨g, 0, none⟩) : Value) = v0 := Eq.symm r0
        refine W.step [(5, _)] (Sub.cons (e0 _ rfl) (Sub.refl _)) ?_
        refine W.call Try.call38 rfl (Disk.failing_ok F g rv D _ (hD.ext (FamPre.ext hX_ (fun k q h1 h2 h3 => h1 h3.1)))) rfl ?_
        rintro v6 w6 ⟨rfl, hD6, hc6⟩
        refine W.nil ?_
        exact At.stepF (Fam.of 1 (hc6.mono fun k hk => ⟨rfl, hk⟩)) ⟨by rw [hf], hD6⟩
      refine And.intro ?_ ?_
      · intro L_ w4 hX_ hs_ hf_ hd_
        obtain ⟨v1, e1, r1⟩ := hd_ 1 rfl
        obtain ⟨rfl, hD1⟩ := r1
        refine W.step [(6, _)] (Sub.cons (e1 _ rfl) (Sub.refl _)) ?_
        refine W.move rfl rfl ?_
        refine W.nil ?_
        exact At.stepF (Fam.ofExt (Ext.refl _)) rfl
      refine And.intro ?_ ?_
      · intro L_ w4 hX_ hs_ hf_ hd_
        obtain ⟨v2, e2, r2⟩ := hd_ 2 rfl
        obtain rfl : (.bool true : Value) = v2 := Eq.symm r2
        refine W.step [(7, _)] (Sub.cons (e2 _ rfl) (Sub.refl _)) ?_
        refine W.skips rfl rfl rfl rfl rfl rfl ?_
        refine W.nil ?_
        exact At.stepF (Fam.ofExt (Ext.refl _)) rfl
      refine And.intro ?_ ?_
      · intro L_ w4 hX_ hs_ hf_ hd_
        obtain ⟨v2, e2, r2⟩ := hd_ 2 rfl
        obtain rfl : (.bool true : Value) = v2 := Eq.symm r2
        refine W.step [(7, _)] (Sub.cons (e2 _ rfl) (Sub.refl _)) ?_
        refine W.skips rfl rfl rfl rfl rfl rfl ?_
        refine W.nil ?_
        exact At.stepF (Fam.ofExt (Ext.refl _)) rfl
      refine And.intro ?_ ?_
      · intro L_ w4 hX_ hs_ hf_ hd_
        obtain ⟨v2, e2, r2⟩ := hd_ 2 rfl
        obtain rfl : (.bool true : Value) = v2 := Eq.symm r2
        refine W.step [(7, _)] (Sub.cons (e2 _ rfl) (Sub.refl _)) ?_
        refine W.skips rfl rfl rfl rfl rfl rfl ?_
        refine W.nil ?_
        exact At.stepF (Fam.ofExt (Ext.refl _)) rfl
      refine And.intro ?_ ?_
      · intro L_ w4 hX_ hs_ hf_ hd_
        obtain ⟨v2, e2, r2⟩ := hd_ 2 rfl
        obtain rfl : (.bool true : Value) = v2 := Eq.symm r2
        refine W.step [(7, _)] (Sub.cons (e2 _ rfl) (Sub.refl _)) ?_
        refine W.skips rfl rfl rfl rfl rfl rfl ?_
        refine W.nil ?_
        exact At.stepF (Fam.ofExt (Ext.refl _)) rfl
      refine And.intro ?_ ?_
      · intro L_ w4 hX_ hs_ hf_ hd_
        obtain ⟨v2, e2, r2⟩ := hd_ 2 rfl
        obtain rfl : (.bool true : Value) = v2 := Eq.symm r2
        refine W.step [(7, _)] (Sub.cons (e2 _ rfl) (Sub.refl _)) ?_
        refine W.skips rfl rfl rfl rfl rfl rfl ?_
        refine W.nil ?_
        exact At.stepF (Fam.ofExt (Ext.refl _)) rfl
      refine And.intro ?_ ?_
      · intro L_ w4 hX_ hs_ hf_ hd_
        obtain ⟨v2, e2, r2⟩ := hd_ 2 rfl
        obtain rfl : (.bool true : Value) = v2 := Eq.symm r2
        refine W.step [(7, _)] (Sub.cons (e2 _ rfl) (Sub.refl _)) ?_
        refine W.skips rfl rfl rfl rfl rfl rfl ?_
        refine W.nil ?_
        exact At.stepF (Fam.ofExt (Ext.refl _)) rfl
      refine And.intro ?_ ?_
      · intro L_ w4 hX_ hs_ hf_ hd_
        obtain ⟨v2, e2, r2⟩ := hd_ 2 rfl
        obtain rfl : (.bool true : Value) = v2 := Eq.symm r2
        refine W.step [(7, _)] (Sub.cons (e2 _ rfl) (Sub.refl _)) ?_
        refine W.skips rfl rfl rfl rfl rfl rfl ?_
        refine W.nil ?_
        exact At.stepF (Fam.ofExt (Ext.refl _)) rfl
      refine And.intro ?_ ?_
      · intro L_ w4 hX_ hs_ hf_ hd_
        obtain ⟨v2, e2, r2⟩ := hd_ 2 rfl
        obtain rfl : (.bool true : Value) = v2 := Eq.symm r2
        refine W.step [(7, _)] (Sub.cons (e2 _ rfl) (Sub.refl _)) ?_
        refine W.skips rfl rfl rfl rfl rfl rfl ?_
        refine W.nil ?_
        exact At.stepF (Fam.ofExt (Ext.refl _)) rfl
      refine And.intro ?_ ?_
      · intro L_ w4 hX_ hs_ hf_ hd_
        obtain ⟨v2, e2, r2⟩ := hd_ 2 rfl
        obtain rfl : (.bool true : Value) = v2 := Eq.symm r2
        refine W.step [(7, _)] (Sub.cons (e2 _ rfl) (Sub.refl _)) ?_
        refine W.skips rfl rfl rfl rfl rfl rfl ?_
        refine W.nil ?_
        exact At.stepF (Fam.ofExt (Ext.refl _)) rfl
      refine And.intro ?_ ?_
      · intro L_ w4 hX_ hs_ hf_ hd_
        obtain ⟨v2, e2, r2⟩ := hd_ 2 rfl
        obtain rfl : (.bool true : Value) = v2 := Eq.symm r2
        refine W.step [(7, _)] (Sub.cons (e2 _ rfl) (Sub.refl _)) ?_
        refine W.skips rfl rfl rfl rfl rfl rfl ?_
        refine W.nil ?_
        exact At.stepF (Fam.ofExt (Ext.refl _)) rfl
      refine And.intro ?_ ?_
      · intro L_ w4 hX_ hs_ hf_ hd_
        obtain ⟨v2, e2, r2⟩ := hd_ 2 rfl
        obtain rfl : (.bool true : Value) = v2 := Eq.symm r2
        refine W.step [(7, _)] (Sub.cons (e2 _ rfl) (Sub.refl _)) ?_
        refine W.skips rfl rfl rfl rfl rfl rfl ?_
        refine W.nil ?_
        exact At.stepF (Fam.ofExt (Ext.refl _)) rfl
      refine And.intro ?_ ?_
      · intro L_ w4 hX_ hs_ hf_ hd_
        obtain ⟨v2, e2, r2⟩ := hd_ 2 rfl
        obtain rfl : (.bool true : Value) = v2 := Eq.symm r2
        refine W.step [(7, _)] (Sub.cons (e2 _ rfl) (Sub.refl _)) ?_
        refine W.skips rfl rfl rfl rfl rfl rfl ?_
        refine W.nil ?_
        exact At.stepF (Fam.ofExt (Ext.refl _)) rfl
      refine And.intro ?_ ?_
      · intro L_ w4 hX_ hs_ hf_ hd_
        obtain ⟨v2, e2, r2⟩ := hd_ 2 rfl
        obtain rfl : (.bool true : Value) = v2 := Eq.symm r2
        refine W.step [(7, _)] (Sub.cons (e2 _ rfl) (Sub.refl _)) ?_
        refine W.skips rfl rfl rfl rfl rfl rfl ?_
        refine W.nil ?_
        exact At.stepF (Fam.ofExt (Ext.refl _)) rfl
      refine And.intro ?_ ?_
      · intro L_ w4 hX_ hs_ hf_ hd_
        obtain ⟨v2, e2, r2⟩ := hd_ 2 rfl
        obtain rfl : (.bool true : Value) = v2 := Eq.symm r2
        obtain ⟨v15, e15, r15⟩ := hd_ 15 rfl
        obtain rfl : (undef : Value) = v15 := Eq.symm r15
        refine W.step [(7, _), (20, _)] (Sub.cons (e2 _ rfl) (Sub.cons (e15 _ rfl) (Sub.refl _))) ?_
        refine W.pickT rfl rfl rfl ?_
        refine W.nil ?_
        exact At.stepF (Fam.ofExt (Ext.refl _)) rfl
      exact trivial
    · intro L_ w4 hX1 hs_ hv_
      obtain ⟨v1, e1, r1⟩ := hv_ 1 (by decide)
      obtain ⟨rfl, hD1⟩ := r1
      obtain ⟨v16, e16, r16⟩ := hv_ 16 (by decide)
      obtain rfl : (.bool true : Value) = v16 := Eq.symm r16
      refine W.weaken (l' := [(6, _), (21, _), (0, _), (1, _)]) (Sub.cons (e1 _ rfl) (Sub.cons (e16 _ rfl) (Sub.cons (hs_ _ _ rfl) (Sub.cons (hs_ _ _ rfl) (Sub.nil))))) ?_
      refine W.nil ?_
      refine At.thenCode ?_
      refine C.condT rfl ?_
      refine C.seq ?_
      refine C.region ?_
      refine W.assign rfl rfl ?_
      refine W.nil ?_
      refine At.thenCode ?_
      refine C.ret ?_
      refine At.thenRet ?_
      refine At.ret1 Try.results55 rfl ?_
      have hc4 : Chg (fun k => k = g) w w4 := hX1.mono fun q ⟨k, hk⟩ => hk.2
      have hcF : Chg F w w4 := hc4.mono fun k hk => by rw [hk]; exact hD.own
      have hbad : failB D = true ∨ Full D b.length := .inl hf
      have happ : appD D b = failD D := by unfold appD; rw [if_pos hbad]; rfl
      exact ⟨by unfold appE; rw [if_pos hbad]; rfl, by rw [happ]; exact hD1.grow (fun k hk => .inl hk) (Grown.lt hD.lt hc4.size), hcF⟩
  · refine C.regionAnyB (fun k b => k = 1 ∧ b = g) 17 ((fun v w => v = .pointer (some ⟨g, 0, none⟩)) :: (fun v w => v = .bool false ∧ Dk w F g rv (failD D)) :: (fun v w => v = .bool false ∧ Dk w F g rv (failD D)) :: (fun v w => v = .slice ap b.length cp) :: (fun v w => v = .int .i64 (b.length : Int)) :: (fun v w => v = .pointer (some ⟨g, 0, none⟩)) :: (fun v w => v = .pointer (some ⟨g, 0, none⟩)) :: (fun v w => v = .pointer (some ⟨g, 0, none⟩)) :: (fun v w => v = .int .i64 rv) :: (fun v w => v = .pointer (some ⟨g, 0, none⟩)) :: (fun v w => v = .pointer (some ⟨g, 0, none⟩)) :: (fun v w => v = .pointer (some ⟨g, 1, none⟩)) :: (fun v w => ∃ ao c, v = .slice ao D.bs.length c) :: (fun v w => v = .int .i64 (D.bs.length : Int)) :: (fun v w => v = .int .i64 (rv - (D.bs.length : Int))) :: (fun v w => v = .bool (decide (rv - (D.bs.length : Int) < (b.length : Int)))) :: (fun v w => v = .bool (decide (rv - (D.bs.length : Int) < (b.length : Int)))) :: []) [(0, .pointer (some ⟨g, 0, none⟩)), (1, .slice ap b.length cp)] [] (Sub.cons (rfl) (Sub.cons (rfl) (Sub.nil))) (Sub.nil) (Sub.cons (rfl) (Sub.cons (rfl) (Sub.nil))) (by kernel_rfl) rfl rfl rfl (And.intro (fun _ _ _ h _ => h) (And.intro (fun _ _ _ ⟨hv, h⟩ g => ⟨hv, h.ext (FamPost.ext g (fun k q h1 h2 h3 => h1 h3.1))⟩) (And.intro (fun _ _ _ ⟨hv, h⟩ g => ⟨hv, h.ext (FamPost.ext g (fun k q h1 h2 h3 => dT_absurd h2 (by rw [h3.1]; kernel_rfl)))⟩) (And.intro (fun _ _ _ h _ => h) (And.intro (fun _ _ _ h _ => h) (And.intro (fun _ _ _ h _ => h) (And.intro (fun _ _ _ h _ => h) (And.intro (fun _ _ _ h _ => h) (And.intro (fun _ _ _ h _ => h) (And.intro (fun _ _ _ h _ => h) (And.intro (fun _ _ _ h _ => h) (And.intro (fun _ _ _ h _ => h) (And.intro (fun _ _ _ h _ => h) (And.intro (fun _ _ _ h _ => h) (And.intro (fun _ _ _ h _ => h) (And.intro (fun _ _ _ h _ => h) (And.intro (fun _ _ _ h _ => h) (trivial)))))))))))))))))) ?_ ?_
    · refine And.intro ?_ ?_
      · intro L_ w4 hX_ hs_ hf_ hd_
        refine W.step [(0, _)] (Sub.cons (hs_ _ _ rfl) (Sub.refl _)) ?_
        refine W.move rfl rfl ?_
        refine W.nil ?_
        exact At.stepF (Fam.ofExt (Ext.refl _)) rfl
      refine And.intro ?_ ?_
      · intro L_ w4 hX_ hs_ hf_ hd_
        obtain ⟨v0, e0, r0⟩ := hd_ 0 rfl
        obtain rfl : (.pointer (some ⟨g, 0, none⟩) : Value) = v0 := Eq.symm r0
        refine W.step [(5, _)] (Sub.cons (e0 _ rfl) (Sub.refl _)) ?_
        refine W.call Try.call38 rfl (Disk.failing_ok F g rv D _ (hD.ext (FamPre.ext hX_ (fun k q h1 h2 h3 => h1 h3.1)))) rfl ?_
        rintro v6 w6 ⟨rfl, hD6, hc6⟩
        refine W.nil ?_
        exact At.stepF (Fam.of 1 (hc6.mono fun k hk => ⟨rfl, hk⟩)) ⟨by simpa using hf, hD6⟩
      refine And.intro ?_ ?_
      · intro L_ w4 hX_ hs_ hf_ hd_
        obtain ⟨v1, e1, r1⟩ := hd_ 1 rfl
        obtain ⟨rfl, hD1⟩ := r1
        refine W.step [(6, _)] (Sub.cons (e1 _ rfl) (Sub.refl _)) ?_
        refine W.move rfl rfl ?_
        refine W.nil ?_
        exact At.stepF (Fam.ofExt (Ext.refl _)) ⟨rfl, hD1⟩
      refine And.intro ?_ ?_
      · intro L_ w4 hX_ hs_ hf_ hd_
        obtain ⟨v2, e2, r2⟩ := hd_ 2 rfl
        obtain ⟨rfl, hD2⟩ := r2
        refine W.step [(1, _), (7, _)] (Sub.cons (hs_ _ _ rfl) (Sub.cons (e2 _ rfl) (Sub.refl _))) ?_
        refine W.wants rfl rfl rfl rfl ?_
        refine W.move rfl rfl ?_
        refine W.nil ?_
        exact At.stepF (Fam.ofExt (Ext.refl _)) rfl
      refine And.intro ?_ ?_
      · intro L_ w4 hX_ hs_ hf_ hd_
        obtain ⟨v3, e3, r3⟩ := hd_ 3 rfl
        obtain rfl : (.slice ap b.length cp : Value) = v3 := Eq.symm r3
        obtain ⟨v2, e2, r2⟩ := hd_ 2 rfl
        obtain ⟨rfl, hD2⟩ := r2
        refine W.step [(8, _), (7, _)] (Sub.cons (e3 _ rfl) (Sub.cons (e2 _ rfl) (Sub.refl _))) ?_
        refine W.wants rfl rfl rfl rfl ?_
        refine W.lenS rfl Try.underlying51 rfl ?_
        refine W.nil ?_
        exact At.stepF (Fam.ofExt (Ext.refl _)) rfl
      refine And.intro ?_ ?_
      · intro L_ w4 hX_ hs_ hf_ hd_
        obtain ⟨v2, e2, r2⟩ := hd_ 2 rfl
        obtain ⟨rfl, hD2⟩ := r2
        refine W.step [(0, _), (7, _)] (Sub.cons (hs_ _ _ rfl) (Sub.cons (e2 _ rfl) (Sub.refl _))) ?_
        refine W.wants rfl rfl rfl rfl ?_
        refine W.move rfl rfl ?_
        refine W.nil ?_
        exact At.stepF (Fam.ofExt (Ext.refl _)) rfl
      refine And.intro ?_ ?_
      · intro L_ w4 hX_ hs_ hf_ hd_
        obtain ⟨v5, e5, r5⟩ := hd_ 5 rfl
        obtain rfl : (.pointer (some ⟨g, 0, none⟩) : Value) = v5 := Eq.symm r5
        obtain ⟨v2, e2, r2⟩ := hd_ 2 rfl
        obtain ⟨rfl, hD2⟩ := r2
        refine W.step [(10, _), (7, _)] (Sub.cons (e5 _ rfl) (Sub.cons (e2 _ rfl) (Sub.refl _))) ?_
        refine W.wants rfl rfl rfl rfl ?_
        refine W.nilCheck rfl rfl ?_
        refine W.nil ?_
        exact At.stepF (Fam.ofExt (Ext.refl _)) rfl
      refine And.intro ?_ ?_
      · intro L_ w4 hX_ hs_ hf_ hd_
        obtain ⟨v6, e6, r6⟩ := hd_ 6 rfl
        obtain rfl : (.pointer (some ⟨g, 0, none⟩) : Value) = v6 := Eq.symm r6
        obtain ⟨v2, e2, r2⟩ := hd_ 2 rfl
        obtain ⟨rfl, hD2⟩ := r2
        refine W.step [(11, _), (7, _)] (Sub.cons (e6 _ rfl) (Sub.cons (e2 _ rfl) (Sub.refl _))) ?_
        refine W.wants rfl rfl rfl rfl ?_
        refine W.fieldB (off := 0) (size := 1) (t := 3) (Fld.of (by kernel_rfl)) rfl rfl rfl ?_
        refine W.nil ?_
        exact At.stepF (Fam.ofExt (Ext.refl _)) rfl
      refine And.intro ?_ ?_
      · intro L_ w4 hX_ hs_ hf_ hd_
        obtain ⟨v7, e7, r7⟩ := hd_ 7 rfl
        obtain rfl : (.pointer (some ⟨g, 0, none⟩) : Value) = v7 := Eq.symm r7
        obtain ⟨v2, e2, r2⟩ := hd_ 2 rfl
        obtain ⟨rfl, hD2⟩ := r2
        refine W.step [(12, _), (7, _)] (Sub.cons (e7 _ rfl) (Sub.cons (e2 _ rfl) (Sub.refl _))) ?_
        refine W.wants rfl rfl rfl rfl ?_
        obtain ⟨bo, cb, fo, cf, h1, h2, h3, h4, h5⟩ := hD2.out
        refine W.loadB rfl Try.underlying3 rfl h1 rfl rfl ?_
        refine W.nil ?_
        exact At.stepF (Fam.ofExt (Ext.refl _)) rfl
      refine And.intro ?_ ?_
      · intro L_ w4 hX_ hs_ hf_ hd_
        obtain ⟨v2, e2, r2⟩ := hd_ 2 rfl
        obtain ⟨rfl, hD2⟩ := r2
        refine W.step [(0, _), (7, _)] (Sub.cons (hs_ _ _ rfl) (Sub.cons (e2 _ rfl) (Sub.refl _))) ?_
        refine W.wants rfl rfl rfl rfl ?_
        refine W.move rfl rfl ?_
        refine W.nil ?_
        exact At.stepF (Fam.ofExt (Ext.refl _)) rfl
      refine And.intro ?_ ?_
      · intro L_ w4 hX_ hs_ hf_ hd_
        obtain ⟨v9, e9, r9⟩ := hd_ 9 rfl
        obtain rfl : (.pointer (some ⟨g, 0, none⟩) : Value) = v9 := Eq.symm r9
        obtain ⟨v2, e2, r2⟩ := hd_ 2 rfl
        obtain ⟨rfl, hD2⟩ := r2
        refine W.step [(14, _), (7, _)] (Sub.cons (e9 _ rfl) (Sub.cons (e2 _ rfl) (Sub.refl _))) ?_
        refine W.wants rfl rfl rfl rfl ?_
        refine W.nilCheck rfl rfl ?_
        refine W.nil ?_
        exact At.stepF (Fam.ofExt (Ext.refl _)) rfl
      refine And.intro ?_ ?_
      · intro L_ w4 hX_ hs_ hf_ hd_
        obtain ⟨v10, e10, r10⟩ := hd_ 10 rfl
        obtain rfl : (.pointer (some ⟨g, 0, none⟩) : Value) = v10 := Eq.symm r10
        obtain ⟨v2, e2, r2⟩ := hd_ 2 rfl
        obtain ⟨rfl, hD2⟩ := r2
        refine W.step [(15, _), (7, _)] (Sub.cons (e10 _ rfl) (Sub.cons (e2 _ rfl) (Sub.refl _))) ?_
        refine W.wants rfl rfl rfl rfl ?_
        refine W.fieldB (off := 1) (size := 1) (t := 51) (Fld.of (by kernel_rfl)) rfl rfl rfl ?_
        refine W.nil ?_
        exact At.stepF (Fam.ofExt (Ext.refl _)) rfl
      refine And.intro ?_ ?_
      · intro L_ w4 hX_ hs_ hf_ hd_
        obtain ⟨v11, e11, r11⟩ := hd_ 11 rfl
        obtain rfl : (.pointer (some ⟨g, 1, none⟩) : Value) = v11 := Eq.symm r11
        obtain ⟨v2, e2, r2⟩ := hd_ 2 rfl
        obtain ⟨rfl, hD2⟩ := r2
        refine W.step [(16, _), (7, _)] (Sub.cons (e11 _ rfl) (Sub.cons (e2 _ rfl) (Sub.refl _))) ?_
        refine W.wants rfl rfl rfl rfl ?_
        obtain ⟨bo, cb, fo, cf, h1, h2, h3, h4, h5⟩ := hD2.out
        refine W.loadB rfl Try.underlying51 rfl h1 rfl rfl ?_
        refine W.nil ?_
        exact At.stepF (Fam.ofExt (Ext.refl _)) ⟨_, _, rfl⟩
      refine And.intro ?_ ?_
      · intro L_ w4 hX_ hs_ hf_ hd_
        obtain ⟨v12, e12, r12⟩ := hd_ 12 rfl
        obtain ⟨ao12, c12, rfl⟩ := r12
        obtain ⟨v2, e2, r2⟩ := hd_ 2 rfl
        obtain ⟨rfl, hD2⟩ := r2
        refine W.step [(17, _), (7, _)] (Sub.cons (e12 _ rfl) (Sub.cons (e2 _ rfl) (Sub.refl _))) ?_
        refine W.wants rfl rfl rfl rfl ?_
        refine W.lenS rfl Try.underlying51 rfl ?_
        refine W.nil ?_
        exact At.stepF (Fam.ofExt (Ext.refl _)) rfl
      refine And.intro ?_ ?_
      · intro L_ w4 hX_ hs_ hf_ hd_
        obtain ⟨v8, e8, r8⟩ := hd_ 8 rfl
        obtain rfl : (.int .i64 rv : Value) = v8 := Eq.symm r8
        obtain ⟨v13, e13, r13⟩ := hd_ 13 rfl
        obtain rfl : (.int .i64 (D.bs.length : Int) : Value) = v13 := Eq.symm r13
        obtain ⟨v2, e2, r2⟩ := hd_ 2 rfl
        obtain ⟨rfl, hD2⟩ := r2
        refine W.step [(13, _), (18, _), (7, _)] (Sub.cons (e8 _ rfl) (Sub.cons (e13 _ rfl) (Sub.cons (e2 _ rfl) (Sub.refl _)))) ?_
        refine W.wants rfl rfl rfl rfl ?_
        first | refine W.subI rfl rfl (by omega) rfl ?_ | refine W.subW rfl rfl rfl ?_
        refine W.nil ?_
        exact At.stepF (Fam.ofExt (Ext.refl _)) rfl
      refine And.intro ?_ ?_
      · intro L_ w4 hX_ hs_ hf_ hd_
        obtain ⟨v4, e4, r4⟩ := hd_ 4 rfl
        obtain rfl : (.int .i64 (b.length : Int) : Value) = v4 := Eq.symm r4
        obtain ⟨v14, e14, r14⟩ := hd_ 14 rfl
        obtain rfl : (.int .i64 (rv - (D.bs.length : Int)) : Value) = v14 := Eq.symm r14
        obtain ⟨v2, e2, r2⟩ := hd_ 2 rfl
        obtain ⟨rfl, hD2⟩ := r2
        refine W.step [(9, _), (19, _), (7, _)] (Sub.cons (e4 _ rfl) (Sub.cons (e14 _ rfl) (Sub.cons (e2 _ rfl) (Sub.refl _)))) ?_
        refine W.wants rfl rfl rfl rfl ?_
        refine W.gtrI rfl rfl rfl ?_
        refine W.nil ?_
        exact At.stepF (Fam.ofExt (Ext.refl _)) rfl
      refine And.intro ?_ ?_
      · intro L_ w4 hX_ hs_ hf_ hd_
        obtain ⟨v2, e2, r2⟩ := hd_ 2 rfl
        obtain ⟨rfl, hD2⟩ := r2
        obtain ⟨v15, e15, r15⟩ := hd_ 15 rfl
        obtain rfl : (.bool (decide (rv - (D.bs.length : Int) < (b.length : Int))) : Value) = v15 := Eq.symm r15
        refine W.step [(7, _), (20, _)] (Sub.cons (e2 _ rfl) (Sub.cons (e15 _ rfl) (Sub.refl _))) ?_
        refine W.pickF rfl rfl rfl ?_
        refine W.nil ?_
        exact At.stepF (Fam.ofExt (Ext.refl _)) rfl
      exact trivial
    · intro L_ w4 hX1 hs_ hv_
      obtain ⟨v1, e1, r1⟩ := hv_ 1 (by decide)
      obtain ⟨rfl, hD1⟩ := r1
      obtain ⟨v16, e16, r16⟩ := hv_ 16 (by decide)
      obtain rfl : (.bool (decide (rv - (D.bs.length : Int) < (b.length : Int))) : Value) = v16 := Eq.symm r16
      refine W.weaken (l' := [(6, _), (21, _), (0, _), (1, _)]) (Sub.cons (e1 _ rfl) (Sub.cons (e16 _ rfl) (Sub.cons (hs_ _ _ rfl) (Sub.cons (hs_ _ _ rfl) (Sub.nil))))) ?_
      refine W.nil ?_
      refine At.thenCode ?_
      first | refine C.condD rfl (fun c21 => ?_) (fun c21 => ?_) | refine C.cond rfl (fun c21 => ?_) (fun c21 => ?_)
      · refine C.seq ?_
        refine C.region ?_
        refine W.assign rfl rfl ?_
        refine W.nil ?_
        refine At.thenCode ?_
        refine C.ret ?_
        refine At.thenRet ?_
        refine At.ret1 Try.results55 rfl ?_
        have hc4 : Chg (fun k => k = g) w w4 := hX1.mono fun q ⟨k, hk⟩ => hk.2
        have hcF : Chg F w w4 := hc4.mono fun k hk => by rw [hk]; exact hD.own
        have hbad : failB D = true ∨ Full D b.length := .inr (by unfold Full; omega)
        have happ : appD D b = failD D := by unfold appD; rw [if_pos hbad]; rfl
        exact ⟨by unfold appE; rw [if_pos hbad]; rfl, by rw [happ]; exact hD1.grow (fun k hk => .inl hk) (Grown.lt hD.lt hc4.size), hcF⟩
      · have hc4 : Chg (fun k => k = g) w w4 := hX1.mono fun q ⟨k, hk⟩ => hk.2
        have hcF : Chg F w w4 := hc4.mono fun k hk => by rw [hk]; exact hD.own
        have hgood0 : ¬ (failB D = true ∨ Full D b.length) := fun h => h.elim hf (fun h => by unfold Full at h; omega)
        obtain ⟨bo, cb, fo, cf, h1, h2, h3, h4, h5⟩ := hD1.out
        have h1 : Bk w4 g [.int .i64 rv, .slice bo D.bs.length cb, .int .i64 (D.syn : Int), .slice fo D.fails.tail.length cf] := h1
        have h2 : Ow w4 0 5 (.slice bo D.bs.length cb) D.bs := h2
        have h3 : Zs w4 fo cf D.fails.tail := h3
        have hs4 := hc4.size
        have hlo := ow_lt h2
        have hB4 : Bs w4 ap cp b := Sl.chg hB hc4 (fun ad e hne hk => hap ad e (fun h => hne (by rw [h]; rfl)) (by rw [hk]; exact hD.own))
        refine C.skip ?_
        refine At.thenCode ?_
        refine C.seq ?_
        refine C.region ?_
        refine W.move rfl rfl ?_
        refine W.move rfl rfl ?_
        refine W.nilCheck rfl rfl ?_
        refine W.fieldB (off := 1) (size := 1) (t := 51) (Fld.of (by kernel_rfl)) rfl rfl rfl ?_
        refine W.loadB rfl Try.underlying51 rfl (by assumption) rfl rfl ?_
        refine W.move rfl rfl ?_
        refine W.appendB E8 Try.underlying51 rfl rfl h2 hB4 (by omega) (Nat.zero_le _) rfl ?_
        intro vA wA hoA hgA hnA
        obtain ⟨aoA, cA, rfl, _, _⟩ := ownsRow_form hoA
        have hcAp : Chg (fun k => some k = (Value.slice bo D.bs.length cb).ownBlock ∨ w4.heap.size ≤ k) w4 wA := (Chg.of_grown hgA).mono fun k hk => .inl hk
        have hnewA : ∀ ad, aoA = some ad → (∃ a, bo = some a ∧ ad.block = a.block) ∨ w.heap.size ≤ ad.block := fun ad e => by
          have hown : (Value.slice aoA (D.bs ++ b).length cA).ownBlock = some ad.block := by rw [e]; rfl
          rcases hnA with h | ⟨k, h, hk⟩
          · rw [h] at hown
            obtain ⟨a, e1, e2⟩ := slice_own hown
            exact .inl ⟨a, e1, e2.symm⟩
          · rw [h] at hown
            obtain rfl := Option.some.inj hown
            exact .inr (by omega)
        have hsA : w.heap.size ≤ wA.heap.size := by have := hcAp.size; omega
        have hcA0 : Chg F w wA := hcF.news hcAp (fun k hk => by
          rcases hk with hk | hk
          · obtain ⟨ad, e1, e2⟩ := slice_own hk.symm
            exact .inl (by rw [← e2]; exact (h4 ad e1).1)
          · exact .inr (by omega))
        have h1A := h1.chg hcAp (fun hk => by
          rcases hk with hk | hk
          · obtain ⟨ad, e1, e2⟩ := slice_own hk.symm
            exact (h4 ad e1).2 e2
          · have := hD.lt g hD.own; omega)
        have hZA : Zs wA fo cf D.fails.tail := Sl.chg h3 hcAp (fun ad e hne hk => by
          have hq := h5 ad e (fun h => hne (by rw [show D.fails.tail = [] from h]; rfl))
          rcases hk with hk | hk
          · obtain ⟨ad', e1, e2⟩ := slice_own hk.symm
            exact hq.2.2 ad' e1 e2.symm
          · have := hD.lt _ hq.1; omega)
        refine W.nilCheck rfl rfl ?_
        refine W.fieldB (off := 1) (size := 1) (t := 51) (Fld.of (by kernel_rfl)) rfl rfl rfl ?_
        refine W.store1 rfl rfl rfl h1A (by simp) (by kernel_rfl) ?_
        intro w9 hc9 hB9
        have hc9F : Chg F wA w9 := hc9.mono fun k hk => by rw [hk]; exact hD.own
        have hcA := hcA0.trans hc9F
        have h5A : ∀ ad, fo = some ad → D.fails.tail ≠ [] → Grown F w wA ad.block ∧ ad.block ≠ g ∧ ∀ ad', aoA = some ad' → ad.block ≠ ad'.block := fun ad e hne => by
          have hq := h5 ad e hne
          refine ⟨.inl hq.1, hq.2.1, fun ad' e' => ?_⟩
          rcases hnewA ad' e' with ⟨a, ha, hb⟩ | hb
          · rw [hb]; exact hq.2.2 a ha
          · have := hD.lt _ hq.1; omega
        have h4A : ∀ ad, aoA = some ad → Grown F w wA ad.block ∧ ad.block ≠ g := fun ad e => by
          have hltA := ow_lt hoA ad e
          rcases hnewA ad e with ⟨a, ha, hb⟩ | hb
          · rw [hb]; exact ⟨.inl (h4 a ha).1, (h4 a ha).2⟩
          · exact ⟨.inr ⟨hb, hltA⟩, fun c => by have := hD.lt g hD.own; omega⟩
        refine W.nil ?_
        refine At.thenCode ?_
        refine C.seq ?_
        refine C.region ?_
        refine W.assign rfl rfl ?_
        refine W.nil ?_
        refine At.thenCode ?_
        refine C.ret ?_
        refine At.ret1 Try.results55 rfl ?_
        first
        | exact ⟨by unfold appE; rw [if_pos hbad]; rfl, by rw [happ]; exact hD1.grow (fun k hk => .inl hk) (Grown.lt hD.lt hc4.size), hcF⟩
        | (have hgood : ¬ (failB D = true ∨ Full D b.length) := hgood0
           have hap2 : appD D b = ⟨D.room, D.bs ++ b, D.syn, D.fails.tail⟩ := by unfold appD; rw [if_neg hgood]
           have hok := appD_ok hD.ok (b := b) (by omega)
           rw [hap2] at hok
           refine ⟨by unfold appE; rw [if_neg hgood]; rfl, ?_, hcA⟩
           rw [hap2]
           exact Dk.rebuild (D := ⟨D.room, D.bs ++ b, D.syn, D.fails.tail⟩) hD.own hD.lt hsA hB9 hoA hZA hc9 h4A h5A hok hD.room hD.rvb)
section
variable {P : Program} {N : Nat} {Q : Exit → Act → World → Prop} {l : Env} {w : World} {ops : Array Oper} {rest : List Oper} {d : Tmp} {ty : TypeId} {pos : String} {aft : Array Edge}
/-- x[:k] of a row that is owned. -/
theorem W.sliceO {x oh : Operand} {t e c base k : Nat} {z : Value} {bytes : Nat} {kk : IntKind} {bo : Option Addr} {xs : List UInt8} (hE : Elem P e 1 bytes z) (hT : P.underlying t = some (.slice e)) (hx : ev l x = some (.slice bo xs.length c)) (ho : Ow w base 5 (.slice bo xs.length c) xs)
    (hh : ev l oh = some (.int kk (k : Int))) (hk : k ≤ xs.length) (hN : Nat.blt d N = true)
    (next : ∀ bo', Ow w base 5 (.slice bo' (xs.take k).length c) (xs.take k) → (∀ ad, bo' = some ad → ∃ a, bo = some a ∧ ad.block = a.block) → W P N ops Q rest ((d, .slice bo' (xs.take k).length c) :: l) w) :
    W P N ops Q (⟨some d, .slice t x none (some oh) none, ty, pos, aft, none⟩ :: rest) l w := by
  obtain ⟨i, hi', hz, hsz, hby⟩ := hE.out
  obtain ⟨_, _, he2, hS2, _⟩ := ownsRow_form ho
  injection he2 with e1 e2 e3
  subst e1; subst e3
  have hle := hS2.le
  obtain ⟨bo', hv, ho', hb'⟩ := ow_take ho hk hS2.nil
  refine W.op (v := .slice bo' (xs.take k).length c) (w' := w) rfl rfl hN (fun a ha => ?_) (next bo' ho' hb')
  have b1 : (Instr.sliceBound (.int kk (k : Int)) c (if true then .sliceAcap else .sliceAcap)).run P w = .ok k w := by
    have : (0 : Int) ≤ (k : Int) ∧ (k : Int) ≤ (c : Int) := by omega
    simp [Instr.sliceBound, asIntOf, this]
  have hrun : (Instr.slice t (.slice bo xs.length c) none (some (a.eval oh)) none).run P w = .ok (.slice bo' (xs.take k).length c) w := by
    rw [← hv, ha.ev hh]
    have b2 : ∀ (code : BoundsCode), (Instr.sliceBound (.int kk (k : Int)) c code).run P w = .ok k w := by
      intro code
      have : (0 : Int) ≤ (k : Int) ∧ (k : Int) ≤ (c : Int) := by omega
      simp [Instr.sliceBound, asIntOf, this]
    simp [Instr.slice, run_underlying hT, Instr.sliceBounds, sizeOf, typeInfo, hi', hsz, b2]
  simp only [execOp, Instr.sliceAt, ha.ev hx, Sem.run_bind, Sem.run_pure, Result.andThen_ok, run_underlying hT, Option.map_none, Option.map_some, hrun]
end
theorem Cut_ok (F : Nat → Prop) (g : Nat) (rv : Int) (D : Dsk) (n : Int) (w : World) (hD : Dk w F g rv D) : Ct Try.prog 23 #[.pointer (some ⟨g, 0, none⟩), .int .i64 n] w (fun v w' => v = .int .i64 (cutE D n : Int) ∧ Dk w' (Grown F w w') g rv (cutD D n) ∧ Chg F w w') := by
  refine Ct.enter [(0, .pointer (some ⟨g, 0, none⟩)), (1, .int .i64 n)] Try.func23 rfl rfl rfl rfl ?_
  have hsml := hD.ok.small
  refine C.seq ?_
  refine C.region ?_
  refine W.assign rfl rfl ?_
  refine W.nil ?_
  refine At.thenCode ?_
  refine C.seq ?_
  refine C.block ?_
  refine C.seq ?_
  refine C.region ?_
  refine W.move rfl rfl ?_
  refine W.call Try.call38 rfl (Disk.failing_ok F g rv D _ hD) rfl ?_
  rintro v4 w4 ⟨rfl, hD1, hc4⟩
  have hcF : Chg F w w4 := hc4.mono fun k hk => by rw [hk]; exact hD.own
  obtain ⟨bo, cb, fo, cf, h1, h2, h3, h4, h5⟩ := hD1.out
  have h1 : Bk w4 g [.int .i64 rv, .slice bo D.bs.length cb, .int .i64 (D.syn : Int), .slice fo D.fails.tail.length cf] := h1
  have h2 : Ow w4 0 5 (.slice bo D.bs.length cb) D.bs := h2
  have h3 : Zs w4 fo cf D.fails.tail := h3
  have hs4 := hc4.size
  have hlo := ow_lt h2
  refine W.assign rfl rfl ?_
  refine W.nil ?_
  refine At.thenCode ?_
  first | refine C.condD rfl (fun c5 => ?_) (fun c5 => ?_) | refine C.cond rfl (fun c5 => ?_) (fun c5 => ?_)
  · refine C.seq ?_
    refine C.region ?_
    refine W.assign rfl rfl ?_
    refine W.nil ?_
    refine At.thenCode ?_
    refine C.ret ?_
    refine At.blockRet ?_
    refine At.thenRet ?_
    refine At.ret1 Try.results23 rfl ?_
    first
    | (have hbad : failB D = true ∨ CutBad D n := .inl c5
       have happ : cutD D n = failD D := by unfold cutD; rw [if_pos hbad, if_pos hbad]; rfl
       exact ⟨by unfold cutE; rw [if_pos (show failB D = true from c5)]; rfl, by rw [happ]; exact hD1.grow (fun k hk => .inl hk) (Grown.lt hD.lt hc4.size), hcF⟩)
    | (have hok := cutD_ok hD.ok n
       rw [hct2] at hok
       refine ⟨by unfold cutE; rw [if_neg hf, if_neg hnb]; rfl, ?_, hcF.trans (hcz2.mono fun k hk => by rw [hk]; exact hD.own)⟩
       rw [hct2]
       exact Dk.rebuild (D := ⟨D.room, D.bs.take m, m, D.fails.tail⟩) hD.own hD.lt hs4 hBz hoA h3 hcz2 (fun ad e => by obtain ⟨a, ha, hb⟩ := hbA ad e; rw [hb]; exact ⟨.inl (h4 a ha).1, (h4 a ha).2⟩) (fun ad e hne => by
         have hq := h5 ad e hne
         exact ⟨.inl hq.1, hq.2.1, fun ad' e' => by obtain ⟨a, ha, hb⟩ := hbA ad' e'; rw [hb]; exact hq.2.2 a ha⟩) hok hD.room hD.rvb)
    | (have hf : ¬ failB D = true := by simpa using c5
       have hcb : CutBad D n := by unfold CutBad; omega
       have hbad : failB D = true ∨ CutBad D n := .inr hcb
       have happ : cutD D n = failD D := by unfold cutD; rw [if_pos hbad, if_pos hbad]; rfl
       exact ⟨by unfold cutE; rw [if_neg hf, if_pos hcb]; rfl, by rw [happ]; exact hD1.grow (fun k hk => .inl hk) (Grown.lt hD.lt hc4.size), hcF⟩)
  · refine C.seq ?_
    refine C.region ?_
    refine W.move rfl rfl ?_
    refine W.lssI rfl rfl rfl ?_
    refine W.move rfl rfl ?_
    first | refine W.splitD (fun g11 => ?_) (fun g11 => ?_) | refine W.splitB (fun g11 => ?_) (fun g11 => ?_)
    · refine W.skips rfl rfl rfl rfl rfl rfl ?_
      refine W.skips rfl rfl rfl rfl rfl rfl ?_
      refine W.skips rfl rfl rfl rfl rfl rfl ?_
      refine W.skips rfl rfl rfl rfl rfl rfl ?_
      refine W.skips rfl rfl rfl rfl rfl rfl ?_
      refine W.skips rfl rfl rfl rfl rfl rfl ?_
      refine W.skips rfl rfl rfl rfl rfl rfl ?_
      refine W.pickT rfl rfl rfl ?_
      refine W.assign rfl rfl ?_
      refine W.nil ?_
      refine At.thenCode ?_
      refine C.condT rfl ?_
      refine C.seq ?_
      refine C.region ?_
      refine W.assign rfl rfl ?_
      refine W.nil ?_
      refine At.thenCode ?_
      refine C.ret ?_
      refine At.blockRet ?_
      refine At.thenRet ?_
      refine At.ret1 Try.results23 rfl ?_
      first
      | (have hbad : failB D = true ∨ CutBad D n := .inl c5
         have happ : cutD D n = failD D := by unfold cutD; rw [if_pos hbad, if_pos hbad]; rfl
         exact ⟨by unfold cutE; rw [if_pos (show failB D = true from c5)]; rfl, by rw [happ]; exact hD1.grow (fun k hk => .inl hk) (Grown.lt hD.lt hc4.size), hcF⟩)
      | (have hok := cutD_ok hD.ok n
         rw [hct2] at hok
         refine ⟨by unfold cutE; rw [if_neg hf, if_neg hnb]; rfl, ?_, hcF.trans (hcz2.mono fun k hk => by rw [hk]; exact hD.own)⟩
         rw [hct2]
         exact Dk.rebuild (D := ⟨D.room, D.bs.take m, m, D.fails.tail⟩) hD.own hD.lt hs4 hBz hoA h3 hcz2 (fun ad e => by obtain ⟨a, ha, hb⟩ := hbA ad e; rw [hb]; exact ⟨.inl (h4 a ha).1, (h4 a ha).2⟩) (fun ad e hne => by
           have hq := h5 ad e hne
           exact ⟨.inl hq.1, hq.2.1, fun ad' e' => by obtain ⟨a, ha, hb⟩ := hbA ad' e'; rw [hb]; exact hq.2.2 a ha⟩) hok hD.room hD.rvb)
      | (have hf : ¬ failB D = true := by simpa using c5
         have hcb : CutBad D n := by unfold CutBad; omega
         have hbad : failB D = true ∨ CutBad D n := .inr hcb
         have happ : cutD D n = failD D := by unfold cutD; rw [if_pos hbad, if_pos hbad]; rfl
         exact ⟨by unfold cutE; rw [if_neg hf, if_pos hcb]; rfl, by rw [happ]; exact hD1.grow (fun k hk => .inl hk) (Grown.lt hD.lt hc4.size), hcF⟩)
    · refine W.wants rfl rfl rfl rfl ?_
      refine W.move rfl rfl ?_
      refine W.wants rfl rfl rfl rfl ?_
      refine W.move rfl rfl ?_
      refine W.wants rfl rfl rfl rfl ?_
      refine W.nilCheck rfl rfl ?_
      refine W.wants rfl rfl rfl rfl ?_
      refine W.fieldB (off := 1) (size := 1) (t := 51) (Fld.of (by kernel_rfl)) rfl rfl rfl ?_
      refine W.wants rfl rfl rfl rfl ?_
      refine W.loadB rfl Try.underlying51 rfl (by assumption) rfl rfl ?_
      refine W.wants rfl rfl rfl rfl ?_
      refine W.lenS rfl Try.underlying51 rfl ?_
      refine W.wants rfl rfl rfl rfl ?_
      refine W.gtrI rfl rfl rfl ?_
      refine W.pickF rfl rfl rfl ?_
      refine W.assign rfl rfl ?_
      refine W.nil ?_
      refine At.thenCode ?_
      first | refine C.condD rfl (fun c8 => ?_) (fun c8 => ?_) | refine C.cond rfl (fun c8 => ?_) (fun c8 => ?_)
      · refine C.seq ?_
        refine C.region ?_
        refine W.assign rfl rfl ?_
        refine W.nil ?_
        refine At.thenCode ?_
        refine C.ret ?_
        refine At.blockRet ?_
        refine At.thenRet ?_
        refine At.ret1 Try.results23 rfl ?_
        first
        | (have hbad : failB D = true ∨ CutBad D n := .inl c5
           have happ : cutD D n = failD D := by unfold cutD; rw [if_pos hbad, if_pos hbad]; rfl
           exact ⟨by unfold cutE; rw [if_pos (show failB D = true from c5)]; rfl, by rw [happ]; exact hD1.grow (fun k hk => .inl hk) (Grown.lt hD.lt hc4.size), hcF⟩)
        | (have hok := cutD_ok hD.ok n
           rw [hct2] at hok
           refine ⟨by unfold cutE; rw [if_neg hf, if_neg hnb]; rfl, ?_, hcF.trans (hcz2.mono fun k hk => by rw [hk]; exact hD.own)⟩
           rw [hct2]
           exact Dk.rebuild (D := ⟨D.room, D.bs.take m, m, D.fails.tail⟩) hD.own hD.lt hs4 hBz hoA h3 hcz2 (fun ad e => by obtain ⟨a, ha, hb⟩ := hbA ad e; rw [hb]; exact ⟨.inl (h4 a ha).1, (h4 a ha).2⟩) (fun ad e hne => by
             have hq := h5 ad e hne
             exact ⟨.inl hq.1, hq.2.1, fun ad' e' => by obtain ⟨a, ha, hb⟩ := hbA ad' e'; rw [hb]; exact hq.2.2 a ha⟩) hok hD.room hD.rvb)
        | (have hf : ¬ failB D = true := by simpa using c5
           have hcb : CutBad D n := by unfold CutBad; omega
           have hbad : failB D = true ∨ CutBad D n := .inr hcb
           have happ : cutD D n = failD D := by unfold cutD; rw [if_pos hbad, if_pos hbad]; rfl
           exact ⟨by unfold cutE; rw [if_neg hf, if_pos hcb]; rfl, by rw [happ]; exact hD1.grow (fun k hk => .inl hk) (Grown.lt hD.lt hc4.size), hcF⟩)
      · refine C.skip ?_
        refine At.blockNormal ?_
        refine At.thenCode ?_
        refine C.seq ?_
        refine C.region ?_
        refine W.move rfl rfl ?_
        refine W.move rfl rfl ?_
        refine W.move rfl rfl ?_
        refine W.nilCheck rfl rfl ?_
        refine W.fieldB (off := 1) (size := 1) (t := 51) (Fld.of (by kernel_rfl)) rfl rfl rfl ?_
        have hf : ¬ failB D = true := by simpa using c5
        have hnb : ¬ CutBad D n := by unfold CutBad; omega
        have hgood0 : ¬ (failB D = true ∨ CutBad D n) := fun h => h.elim hf hnb
        obtain ⟨m, hm⟩ : ∃ m : Nat, n = (m : Int) := ⟨n.toNat, by unfold CutBad at hnb; omega⟩
        have hml : m ≤ D.bs.length := by unfold CutBad at hnb; omega
        refine W.loadB rfl Try.underlying51 rfl (by assumption) rfl rfl ?_
        refine W.move rfl rfl ?_
        refine W.sliceO (k := m) (kk := .i64) E8 Try.underlying51 rfl h2 (look_eq rfl (iV hm)) hml rfl ?_
        intro aoA hoA hbA
        refine W.move rfl rfl ?_
        refine W.nilCheck rfl rfl ?_
        refine W.fieldB (off := 1) (size := 1) (t := 51) (Fld.of (by kernel_rfl)) rfl rfl rfl ?_
        refine W.store1 rfl rfl rfl h1 (by simp) (by kernel_rfl) ?_
        intro w9 hc9 hB9
        refine W.nilCheck rfl rfl ?_
        refine W.fieldB (off := 2) (size := 1) (t := 3) (Fld.of (by kernel_rfl)) rfl rfl rfl ?_
        refine W.store1 rfl rfl rfl hB9 (by simp) (by kernel_rfl) ?_
        intro wz hcz hBz
        have hBz : Bk wz g [.int .i64 rv, .slice aoA (D.bs.take m).length cb, .int .i64 (m : Int), .slice fo D.fails.tail.length cf] := by rw [hm] at hBz; exact hBz
        have hct2 : cutD D n = ⟨D.room, D.bs.take m, m, D.fails.tail⟩ := by unfold cutD; rw [if_neg hgood0, if_neg hgood0, hm]; rfl
        have hcz2 := hc9.trans hcz
        refine W.nil ?_
        refine At.thenCode ?_
        refine C.seq ?_
        refine C.region ?_
        refine W.assign rfl rfl ?_
        refine W.nil ?_
        refine At.thenCode ?_
        refine C.ret ?_
        refine At.ret1 Try.results23 rfl ?_
        first
        | (have hbad : failB D = true ∨ CutBad D n := .inl c5
           have happ : cutD D n = failD D := by unfold cutD; rw [if_pos hbad, if_pos hbad]; rfl
           exact ⟨by unfold cutE; rw [if_pos (show failB D = true from c5)]; rfl, by rw [happ]; exact hD1.grow (fun k hk => .inl hk) (Grown.lt hD.lt hc4.size), hcF⟩)
        | (have hok := cutD_ok hD.ok n
           rw [hct2] at hok
           refine ⟨by unfold cutE; rw [if_neg hf, if_neg hnb]; rfl, ?_, hcF.trans (hcz2.mono fun k hk => by rw [hk]; exact hD.own)⟩
           rw [hct2]
           exact Dk.rebuild (D := ⟨D.room, D.bs.take m, m, D.fails.tail⟩) hD.own hD.lt hs4 hBz hoA h3 hcz2 (fun ad e => by obtain ⟨a, ha, hb⟩ := hbA ad e; rw [hb]; exact ⟨.inl (h4 a ha).1, (h4 a ha).2⟩) (fun ad e hne => by
             have hq := h5 ad e hne
             exact ⟨.inl hq.1, hq.2.1, fun ad' e' => by obtain ⟨a, ha, hb⟩ := hbA ad' e'; rw [hb]; exact hq.2.2 a ha⟩) hok hD.room hD.rvb)
        | (have hf : ¬ failB D = true := by simpa using c5
           have hcb : CutBad D n := by unfold CutBad; omega
           have hbad : failB D = true ∨ CutBad D n := .inr hcb
           have happ : cutD D n = failD D := by unfold cutD; rw [if_pos hbad, if_pos hbad]; rfl
           exact ⟨by unfold cutE; rw [if_neg hf, if_pos hcb]; rfl, by rw [happ]; exact hD1.grow (fun k hk => .inl hk) (Grown.lt hD.lt hc4.size), hcF⟩)
end Go.Proofs.Ythiijdbiikljpaa.Disk
