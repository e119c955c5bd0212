/- The reference's comparisons: of what is the same they tell so. -/
import Derived.Test.YtpjdkobmcjgcjaaCodV
namespace Go.Proofs.Ytpjdkobmcjgcjaa.Cod
open Go Go.RowKit Go.Proofs.Ytpjdkobmcjgcjaa.KW Go.Proofs.Ytpjdkobmcjgcjaa.Words Go.Proofs.Ytpjdkobmcjgcjaa.Grp
set_option linter.unusedVariables false
set_option linter.unusedSimpArgs false
set_option maxRecDepth 100000
abbrev NoA : Nat → Prop := fun _ => False
theorem SameEntry_ok (p : Ent) (v1 v2 : Value) (w : World) (h1 : RByt NoA w [v1] p.2) (h2 : RByt NoA w [v2] p.2) :
    Ct Try.prog 46 #[.agg #[u64V p.1, v1], .agg #[u64V p.1, v2]] w (fun v w' => v = .bool true ∧ Ext w w') := by
  refine Ct.enter [(0, .agg #[u64V p.1, v1]), (1, .agg #[u64V p.1, v2])] Try.func46 rfl rfl rfl rfl ?_
  obtain ⟨a1, c1, rfl, hs1, _⟩ := h1.form
  obtain ⟨a2, c2, rfl, hs2, _⟩ := h2.form
  refine C.seq ?_
  refine C.region ?_
  refine W.box [u64V p.1, .slice a1 p.2.length c1] rfl rfl rfl ?_
  intro g2 w2 hg2 hX2 hB2
  refine W.box [u64V p.1, .slice a2 p.2.length c2] rfl rfl rfl ?_
  intro g3 w3 hg3 hX3 hB3
  have hB2a := hB2.ext hX3
  refine W.assign rfl rfl ?_
  refine W.nil ?_
  refine At.thenCode ?_
  refine C.seq ?_
  refine C.region ?_
  refine W.fieldB (off := 0) (size := 1) (t := 22) (Fld.of (by kernel_rfl)) rfl rfl rfl ?_
  refine W.loadB rfl Try.underlying22 rfl (by assumption) rfl rfl ?_
  refine W.fieldB (off := 0) (size := 1) (t := 22) (Fld.of (by kernel_rfl)) rfl rfl rfl ?_
  refine W.loadB rfl Try.underlying22 rfl (by assumption) rfl rfl ?_
  refine W.eqlU rfl rfl rfl ?_
  refine W.eqv (bT (rfl)) ?_
  refine W.move rfl rfl ?_
  refine W.wants rfl rfl rfl rfl ?_
  refine W.fieldB (off := 1) (size := 1) (t := 27) (Fld.of (by kernel_rfl)) rfl rfl rfl ?_
  refine W.wants rfl rfl rfl rfl ?_
  refine W.loadB rfl Try.underlying27 rfl (by assumption) rfl rfl ?_
  refine W.wants rfl rfl rfl rfl ?_
  refine W.bytesStr Try.underlying27 Try.underlying5 Try.underlying9 rfl ((hs1.ext hX2).ext hX3) rfl ?_
  refine W.wants rfl rfl rfl rfl ?_
  refine W.fieldB (off := 1) (size := 1) (t := 27) (Fld.of (by kernel_rfl)) rfl rfl rfl ?_
  refine W.wants rfl rfl rfl rfl ?_
  refine W.loadB rfl Try.underlying27 rfl (by assumption) rfl rfl ?_
  refine W.wants rfl rfl rfl rfl ?_
  refine W.bytesStr Try.underlying27 Try.underlying5 Try.underlying9 rfl ((hs2.ext hX2).ext hX3) rfl ?_
  refine W.wants rfl rfl rfl rfl ?_
  refine W.eqlStr rfl rfl rfl ?_
  refine W.eqv (bT (rfl)) ?_
  refine W.pickT rfl rfl rfl ?_
  refine W.assign rfl rfl ?_
  refine W.nil ?_
  refine At.thenCode ?_
  refine C.ret ?_
  refine At.ret1 Try.results46 rfl ?_
  exact ⟨rfl, hX2.ext hX3⟩
theorem SameEntries_ok (a1 : Option Addr) (c1 : Nat) (a2 : Option Addr) (c2 : Nat) (xs : List Ent) (w : World) (h1 : Els NoA w 2 REnt a1 c1 xs) (h2 : Els NoA w 2 REnt a2 c2 xs) (hl : xs.length ≤ 1000000) :
    Ct Try.prog 22 #[.slice a1 xs.length c1, .slice a2 xs.length c2] w (fun v w' => v = .bool true ∧ Ext w w') := by
  refine Ct.enter [(0, .slice a1 xs.length c1), (1, .slice a2 xs.length c2)] Try.func22 rfl rfl rfl rfl ?_
  refine C.seq ?_
  refine C.region ?_
  refine W.assign rfl rfl ?_
  refine W.nil ?_
  refine At.thenCode ?_
  refine C.seq ?_
  refine C.seq ?_
  refine C.region ?_
  refine W.move rfl rfl ?_
  refine W.lenS rfl Try.underlying49 rfl ?_
  refine W.move rfl rfl ?_
  refine W.lenS rfl Try.underlying49 rfl ?_
  refine W.neqI rfl rfl rfl ?_
  refine W.eqv (bF (fun h => h rfl)) ?_
  refine W.nil ?_
  refine At.thenCode ?_
  refine C.condF rfl ?_
  refine C.skip ?_
  refine At.thenCode ?_
  refine C.seq ?_
  refine C.seq ?_
  refine C.region ?_
  refine W.assign rfl rfl ?_
  refine W.nil ?_
  refine At.thenCode ?_
  refine C.block ?_
  refine C.loop (X := Nat) (fun x_ => [(0, .slice a1 xs.length c1), (1, .slice a2 xs.length c2), (5, .int .i64 (x_ : Int))]) (fun x_ wl => x_ ≤ xs.length ∧ Ext w wl) (fun x_ => xs.length - x_) (0) (Sub.cons (rfl) (Sub.cons (rfl) (Sub.cons (rfl) (Sub.nil)))) ?start1 ?_
  case start1 =>
    show (0) ≤ xs.length ∧ Ext w _
    exact ⟨by omega, Ext.refl _⟩
  rintro i wl hI_
  replace hI_ : i ≤ xs.length ∧ Ext w wl := hI_
  obtain ⟨hi, hXl⟩ := hI_
  refine C.weaken (l' := [(0, .slice a1 xs.length c1), (1, .slice a2 xs.length c2), (5, .int .i64 (i : Int))]) (Sub.cons (rfl) (Sub.cons (rfl) (Sub.cons (rfl) (Sub.nil)))) ?_
  refine C.seq ?_
  refine C.seq ?_
  refine C.region ?_
  refine W.move rfl rfl ?_
  refine W.move rfl rfl ?_
  refine W.lenS rfl Try.underlying49 rfl ?_
  refine W.lssI rfl rfl rfl ?_
  refine W.nil ?_
  refine At.thenCode ?_
  first | refine C.condD rfl (fun c14 => ?_) (fun c14 => ?_) | refine C.cond rfl (fun c14 => ?_) (fun c14 => ?_)
  · have hlt : i < xs.length := by omega
    refine C.skip ?_
    refine At.thenCode ?_
    refine C.seq ?_
    refine C.block ?_
    refine C.seq ?_
    refine C.regionAny 10 ((fun v w => v = .slice a1 xs.length c1) :: (fun v w => v = .int .i64 (i : Int)) :: (fun v w => ∃ ad v1, v = .pointer (some ad) ∧ Cells w ad [u64V xs[i].1, v1] ∧ RByt NoA w [v1] xs[i].2) :: (fun v w => ∃ v1, v = .agg #[u64V xs[i].1, v1] ∧ RByt NoA w [v1] xs[i].2) :: (fun v w => v = .slice a2 xs.length c2) :: (fun v w => v = .int .i64 (i : Int)) :: (fun v w => ∃ ad v1, v = .pointer (some ad) ∧ Cells w ad [u64V xs[i].1, v1] ∧ RByt NoA w [v1] xs[i].2) :: (fun v w => ∃ v1, v = .agg #[u64V xs[i].1, v1] ∧ RByt NoA w [v1] xs[i].2) :: (fun v w => v = .bool true) :: (fun v w => v = .bool false) :: []) [(0, .slice a1 xs.length c1), (1, .slice a2 xs.length c2), (5, .int .i64 (i : Int))] [] (Sub.cons (rfl) (Sub.cons (rfl) (Sub.cons (rfl) (Sub.nil)))) (Sub.nil) (Sub.cons (rfl) (Sub.cons (rfl) (Sub.cons (rfl) (Sub.nil)))) (by kernel_rfl) rfl rfl rfl (And.intro (fun _ _ _ h _ => h) (And.intro (fun _ _ _ h _ => h) (And.intro (fun _ _ _ h g => by obtain ⟨ad, v1, e, h1, h2⟩ := h; exact ⟨ad, v1, e, h1.chg g (fun c => c), RdOk.ext rByt h2 g⟩) (And.intro (fun _ _ _ h g => by obtain ⟨v1, e, h2⟩ := h; exact ⟨v1, e, RdOk.ext rByt h2 g⟩) (And.intro (fun _ _ _ h _ => h) (And.intro (fun _ _ _ h _ => h) (And.intro (fun _ _ _ h g => by obtain ⟨ad, v1, e, h1, h2⟩ := h; exact ⟨ad, v1, e, h1.chg g (fun c => c), RdOk.ext rByt h2 g⟩) (And.intro (fun _ _ _ h g => by obtain ⟨v1, e, h2⟩ := h; exact ⟨v1, e, RdOk.ext rByt h2 g⟩) (And.intro (fun _ _ _ h _ => h) (And.intro (fun _ _ _ h _ => h) (trivial))))))))))) ?_ ?_
    · refine And.intro ?_ ?_
      · intro L_ wr hX_ hs_ hf_ hd_
        refine W.step [(0, _)] (Sub.cons (hs_ _ _ rfl) (Sub.refl _)) ?_
        refine W.move rfl rfl ?_
        refine W.nil ?_
        exact At.step (Ext.refl _) rfl
      refine And.intro ?_ ?_
      · intro L_ wr hX_ hs_ hf_ hd_
        refine W.step [(5, _)] (Sub.cons (hs_ _ _ rfl) (Sub.refl _)) ?_
        refine W.move rfl rfl ?_
        refine W.nil ?_
        exact At.step (Ext.refl _) rfl
      refine And.intro ?_ ?_
      · intro L_ wr hX_ hs_ hf_ hd_
        obtain ⟨v0, e0, r0⟩ := hd_ 0 rfl
        obtain rfl : (.slice a1 xs.length c1 : Value) = v0 := Eq.symm r0
        obtain ⟨v1, e1, r1⟩ := hd_ 1 rfl
        obtain rfl : (.int .i64 (i : Int) : Value) = v1 := Eq.symm r1
        refine W.step [(17, _), (18, _)] (Sub.cons (e0 _ rfl) (Sub.cons (e1 _ rfl) (Sub.refl _))) ?_
        refine W.indexE EEnt Try.underlying49 rfl ((h1.ext rEnt hXl).ext rEnt hX_) rfl hlt rfl ?_
        rintro ad19 cs19 hc19 ⟨v19, rfl, hR19, hx19⟩ _
        refine W.nil ?_
        exact At.step (Ext.refl _) ⟨ad19, v19, rfl, hc19, hR19⟩
      refine And.intro ?_ ?_
      · intro L_ wr hX_ hs_ hf_ hd_
        obtain ⟨v2, e2, r2⟩ := hd_ 2 rfl
        obtain ⟨ad2, v2, rfl, hc2, hR2⟩ := r2
        refine W.step [(19, _)] (Sub.cons (e2 _ rfl) (Sub.refl _)) ?_
        refine W.loadA rfl hc2 Try.underlying36 rfl (by kernel_rfl) rfl ?_
        refine W.nil ?_
        exact At.step (Ext.refl _) ⟨v2, rfl, hR2⟩
      refine And.intro ?_ ?_
      · intro L_ wr hX_ hs_ hf_ hd_
        refine W.step [(1, _)] (Sub.cons (hs_ _ _ rfl) (Sub.refl _)) ?_
        refine W.move rfl rfl ?_
        refine W.nil ?_
        exact At.step (Ext.refl _) rfl
      refine And.intro ?_ ?_
      · intro L_ wr hX_ hs_ hf_ hd_
        refine W.step [(5, _)] (Sub.cons (hs_ _ _ rfl) (Sub.refl _)) ?_
        refine W.move rfl rfl ?_
        refine W.nil ?_
        exact At.step (Ext.refl _) rfl
      refine And.intro ?_ ?_
      · intro L_ wr hX_ hs_ hf_ hd_
        obtain ⟨v4, e4, r4⟩ := hd_ 4 rfl
        obtain rfl : (.slice a2 xs.length c2 : Value) = v4 := Eq.symm r4
        obtain ⟨v5, e5, r5⟩ := hd_ 5 rfl
        obtain rfl : (.int .i64 (i : Int) : Value) = v5 := Eq.symm r5
        refine W.step [(21, _), (22, _)] (Sub.cons (e4 _ rfl) (Sub.cons (e5 _ rfl) (Sub.refl _))) ?_
        refine W.indexE EEnt Try.underlying49 rfl ((h2.ext rEnt hXl).ext rEnt hX_) rfl hlt rfl ?_
        rintro ad23 cs23 hc23 ⟨v23, rfl, hR23, hx23⟩ _
        refine W.nil ?_
        exact At.step (Ext.refl _) ⟨ad23, v23, rfl, hc23, hR23⟩
      refine And.intro ?_ ?_
      · intro L_ wr hX_ hs_ hf_ hd_
        obtain ⟨v6, e6, r6⟩ := hd_ 6 rfl
        obtain ⟨ad6, v6, rfl, hc6, hR6⟩ := r6
        refine W.step [(23, _)] (Sub.cons (e6 _ rfl) (Sub.refl _)) ?_
        refine W.loadA rfl hc6 Try.underlying36 rfl (by kernel_rfl) rfl ?_
        refine W.nil ?_
        exact At.step (Ext.refl _) ⟨v6, rfl, hR6⟩
      refine And.intro ?_ ?_
      · intro L_ wr hX_ hs_ hf_ hd_
        obtain ⟨v3, e3, r3⟩ := hd_ 3 rfl
        obtain ⟨u3, rfl, hR3⟩ := r3
        obtain ⟨v7, e7, r7⟩ := hd_ 7 rfl
        obtain ⟨u7, rfl, hR7⟩ := r7
        refine W.step [(20, _), (24, _)] (Sub.cons (e3 _ rfl) (Sub.cons (e7 _ rfl) (Sub.refl _))) ?_
        refine W.call Try.call46 rfl (Cod.SameEntry_ok xs[i] u3 u7 _ hR3 hR7) rfl ?_
        rintro v25 w25 ⟨rfl, hX25⟩
        refine W.nil ?_
        exact At.step hX25 rfl
      refine And.intro ?_ ?_
      · intro L_ wr hX_ hs_ hf_ hd_
        obtain ⟨v8, e8, r8⟩ := hd_ 8 rfl
        obtain rfl : (.bool true : Value) = v8 := Eq.symm r8
        refine W.step [(25, _)] (Sub.cons (e8 _ rfl) (Sub.refl _)) ?_
        refine W.notB rfl rfl ?_
        refine W.nil ?_
        exact At.step (Ext.refl _) rfl
      exact trivial
    · intro L_ wr hX6 hs_ hv_
      obtain ⟨v9, e9, r9⟩ := hv_ 9 (by decide)
      obtain rfl : (.bool false : Value) = v9 := Eq.symm r9
      refine W.weaken (l' := [(26, _), (0, _), (1, _), (5, _)]) (Sub.cons (e9 _ rfl) (Sub.cons (hs_ _ _ rfl) (Sub.cons (hs_ _ _ rfl) (Sub.cons (hs_ _ _ rfl) (Sub.nil))))) ?_
      refine W.nil ?_
      refine At.thenCode ?_
      refine C.condF rfl ?_
      refine C.skip ?_
      refine At.blockNormal ?_
      refine At.thenCode ?_
      refine C.region ?_
      refine W.move rfl rfl ?_
      first | refine W.addI rfl rfl (by omega) rfl ?_ | refine W.addW rfl rfl rfl ?_
      refine W.assign rfl rfl ?_
      refine W.nil ?_
      refine At.thenRound (i + 1) (Sub.cons (rfl) (Sub.cons (rfl) (Sub.cons (look_eq rfl (iV (by omega))) (Sub.nil)))) (show (i + 1) ≤ xs.length ∧ Ext w _ from ?_) (show xs.length - (i + 1) < xs.length - i from ?_)
      · exact ⟨by omega, hXl.ext hX6⟩
      · omega
  · refine C.exit ?_
    refine At.thenExit ?_
    refine At.thenExit ?_
    refine At.blockSelf ?_
    refine At.thenCode ?_
    refine C.seq ?_
    refine C.region ?_
    refine W.assign rfl rfl ?_
    refine W.nil ?_
    refine At.thenCode ?_
    refine C.ret ?_
    refine At.ret1 Try.results22 rfl ?_
    exact ⟨rfl, hXl⟩
theorem SameNums_ok (a1 : Option Addr) (c1 : Nat) (a2 : Option Addr) (c2 : Nat) (xs : List Nat) (w : World) (h1 : Us w a1 c1 xs) (h2 : Us w a2 c2 xs) (hl : xs.length ≤ 1000000) :
    Ct Try.prog 55 #[.slice a1 xs.length c1, .slice a2 xs.length c2] w (fun v w' => v = .bool true ∧ Ext w w') := by
  refine Ct.enter [(0, .slice a1 xs.length c1), (1, .slice a2 xs.length c2)] Try.func55 rfl rfl rfl rfl ?_
  refine C.seq ?_
  refine C.region ?_
  refine W.assign rfl rfl ?_
  refine W.nil ?_
  refine At.thenCode ?_
  refine C.seq ?_
  refine C.seq ?_
  refine C.region ?_
  refine W.move rfl rfl ?_
  refine W.lenS rfl Try.underlying57 rfl ?_
  refine W.move rfl rfl ?_
  refine W.lenS rfl Try.underlying57 rfl ?_
  refine W.neqI rfl rfl rfl ?_
  refine W.eqv (bF (fun h => h rfl)) ?_
  refine W.nil ?_
  refine At.thenCode ?_
  refine C.condF rfl ?_
  refine C.skip ?_
  refine At.thenCode ?_
  refine C.seq ?_
  refine C.seq ?_
  refine C.region ?_
  refine W.assign rfl rfl ?_
  refine W.nil ?_
  refine At.thenCode ?_
  refine C.block ?_
  refine C.loop (X := Nat) (fun x_ => [(0, .slice a1 xs.length c1), (1, .slice a2 xs.length c2), (5, .int .i64 (x_ : Int))]) (fun x_ wl => x_ ≤ xs.length ∧ Ext w wl) (fun x_ => xs.length - x_) (0) (Sub.cons (rfl) (Sub.cons (rfl) (Sub.cons (rfl) (Sub.nil)))) ?start1 ?_
  case start1 =>
    show (0) ≤ xs.length ∧ Ext w _
    exact ⟨by omega, Ext.refl _⟩
  rintro i wl hI_
  replace hI_ : i ≤ xs.length ∧ Ext w wl := hI_
  obtain ⟨hi, hXl⟩ := hI_
  refine C.weaken (l' := [(0, .slice a1 xs.length c1), (1, .slice a2 xs.length c2), (5, .int .i64 (i : Int))]) (Sub.cons (rfl) (Sub.cons (rfl) (Sub.cons (rfl) (Sub.nil)))) ?_
  refine C.seq ?_
  refine C.seq ?_
  refine C.region ?_
  refine W.move rfl rfl ?_
  refine W.move rfl rfl ?_
  refine W.lenS rfl Try.underlying57 rfl ?_
  refine W.lssI rfl rfl rfl ?_
  refine W.nil ?_
  refine At.thenCode ?_
  first | refine C.condD rfl (fun c14 => ?_) (fun c14 => ?_) | refine C.cond rfl (fun c14 => ?_) (fun c14 => ?_)
  · have hlt : i < xs.length := by omega
    refine C.skip ?_
    refine At.thenCode ?_
    refine C.seq ?_
    refine C.block ?_
    refine C.seq ?_
    refine C.regionAny 9 ((fun v w => v = .slice a1 xs.length c1) :: (fun v w => v = .int .i64 (i : Int)) :: (fun v w => ∃ ad, v = .pointer (some ad) ∧ w.cell? ad = some (u64V xs[i])) :: (fun v w => v = .int .u64 ((xs[i] : Nat) : Int)) :: (fun v w => v = .slice a2 xs.length c2) :: (fun v w => v = .int .i64 (i : Int)) :: (fun v w => ∃ ad, v = .pointer (some ad) ∧ w.cell? ad = some (u64V xs[i])) :: (fun v w => v = .int .u64 ((xs[i] : Nat) : Int)) :: (fun v w => v = .bool false) :: []) [(0, .slice a1 xs.length c1), (1, .slice a2 xs.length c2), (5, .int .i64 (i : Int))] [] (Sub.cons (rfl) (Sub.cons (rfl) (Sub.cons (rfl) (Sub.nil)))) (Sub.nil) (Sub.cons (rfl) (Sub.cons (rfl) (Sub.cons (rfl) (Sub.nil)))) (by kernel_rfl) rfl rfl rfl (And.intro (fun _ _ _ h _ => h) (And.intro (fun _ _ _ h _ => h) (And.intro (fun _ _ _ h g => by obtain ⟨ad, e, h1⟩ := h; exact ⟨ad, e, Chg.cell g h1 fun c => c⟩) (And.intro (fun _ _ _ h _ => h) (And.intro (fun _ _ _ h _ => h) (And.intro (fun _ _ _ h _ => h) (And.intro (fun _ _ _ h g => by obtain ⟨ad, e, h1⟩ := h; exact ⟨ad, e, Chg.cell g h1 fun c => c⟩) (And.intro (fun _ _ _ h _ => h) (And.intro (fun _ _ _ h _ => h) (trivial)))))))))) ?_ ?_
    · refine And.intro ?_ ?_
      · intro L_ wr hX_ hs_ hf_ hd_
        refine W.step [(0, _)] (Sub.cons (hs_ _ _ rfl) (Sub.refl _)) ?_
        refine W.move rfl rfl ?_
        refine W.nil ?_
        exact At.step (Ext.refl _) rfl
      refine And.intro ?_ ?_
      · intro L_ wr hX_ hs_ hf_ hd_
        refine W.step [(5, _)] (Sub.cons (hs_ _ _ rfl) (Sub.refl _)) ?_
        refine W.move rfl rfl ?_
        refine W.nil ?_
        exact At.step (Ext.refl _) rfl
      refine And.intro ?_ ?_
      · intro L_ wr hX_ hs_ hf_ hd_
        obtain ⟨v0, e0, r0⟩ := hd_ 0 rfl
        obtain rfl : (.slice a1 xs.length c1 : Value) = v0 := Eq.symm r0
        obtain ⟨v1, e1, r1⟩ := hd_ 1 rfl
        obtain rfl : (.int .i64 (i : Int) : Value) = v1 := Eq.symm r1
        refine W.step [(17, _), (18, _)] (Sub.cons (e0 _ rfl) (Sub.cons (e1 _ rfl) (Sub.refl _))) ?_
        refine W.indexS (i := (i : Int)) U64 Try.underlying57 rfl ((h1.ext hXl).ext hX_) rfl ⟨by omega, by omega⟩ rfl ?_
        intro ad19 _ _ hq19
        have hc19 := hq19 0 (u64V xs[i]) (by rw [List.getElem?_drop, Int.toNat_natCast, Nat.mul_one, Nat.add_zero]; exact get_u64 hlt)
        rw [add_zero'] at hc19
        refine W.nil ?_
        exact At.step (Ext.refl _) ⟨ad19, rfl, hc19⟩
      refine And.intro ?_ ?_
      · intro L_ wr hX_ hs_ hf_ hd_
        obtain ⟨v2, e2, r2⟩ := hd_ 2 rfl
        obtain ⟨ad2, rfl, hc2⟩ := r2
        refine W.step [(19, _)] (Sub.cons (e2 _ rfl) (Sub.refl _)) ?_
        refine W.load (v := .int .u64 ((xs[i] : Nat) : Int)) rfl Try.underlying22 rfl hc2 rfl ?_
        refine W.nil ?_
        exact At.step (Ext.refl _) rfl
      refine And.intro ?_ ?_
      · intro L_ wr hX_ hs_ hf_ hd_
        refine W.step [(1, _)] (Sub.cons (hs_ _ _ rfl) (Sub.refl _)) ?_
        refine W.move rfl rfl ?_
        refine W.nil ?_
        exact At.step (Ext.refl _) rfl
      refine And.intro ?_ ?_
      · intro L_ wr hX_ hs_ hf_ hd_
        refine W.step [(5, _)] (Sub.cons (hs_ _ _ rfl) (Sub.refl _)) ?_
        refine W.move rfl rfl ?_
        refine W.nil ?_
        exact At.step (Ext.refl _) rfl
      refine And.intro ?_ ?_
      · intro L_ wr hX_ hs_ hf_ hd_
        obtain ⟨v4, e4, r4⟩ := hd_ 4 rfl
        obtain rfl : (.slice a2 xs.length c2 : Value) = v4 := Eq.symm r4
        obtain ⟨v5, e5, r5⟩ := hd_ 5 rfl
        obtain rfl : (.int .i64 (i : Int) : Value) = v5 := Eq.symm r5
        refine W.step [(21, _), (22, _)] (Sub.cons (e4 _ rfl) (Sub.cons (e5 _ rfl) (Sub.refl _))) ?_
        refine W.indexS (i := (i : Int)) U64 Try.underlying57 rfl ((h2.ext hXl).ext hX_) rfl ⟨by omega, by omega⟩ rfl ?_
        intro ad23 _ _ hq23
        have hc23 := hq23 0 (u64V xs[i]) (by rw [List.getElem?_drop, Int.toNat_natCast, Nat.mul_one, Nat.add_zero]; exact get_u64 hlt)
        rw [add_zero'] at hc23
        refine W.nil ?_
        exact At.step (Ext.refl _) ⟨ad23, rfl, hc23⟩
      refine And.intro ?_ ?_
      · intro L_ wr hX_ hs_ hf_ hd_
        obtain ⟨v6, e6, r6⟩ := hd_ 6 rfl
        obtain ⟨ad6, rfl, hc6⟩ := r6
        refine W.step [(23, _)] (Sub.cons (e6 _ rfl) (Sub.refl _)) ?_
        refine W.load (v := .int .u64 ((xs[i] : Nat) : Int)) rfl Try.underlying22 rfl hc6 rfl ?_
        refine W.nil ?_
        exact At.step (Ext.refl _) rfl
      refine And.intro ?_ ?_
      · intro L_ wr hX_ hs_ hf_ hd_
        obtain ⟨v3, e3, r3⟩ := hd_ 3 rfl
        obtain rfl : (.int .u64 ((xs[i] : Nat) : Int) : Value) = v3 := Eq.symm r3
        obtain ⟨v7, e7, r7⟩ := hd_ 7 rfl
        obtain rfl : (.int .u64 ((xs[i] : Nat) : Int) : Value) = v7 := Eq.symm r7
        refine W.step [(20, _), (24, _)] (Sub.cons (e3 _ rfl) (Sub.cons (e7 _ rfl) (Sub.refl _))) ?_
        refine W.neqU rfl rfl rfl ?_
        refine W.eqv (bF (fun h => h rfl)) ?_
        refine W.nil ?_
        exact At.step (Ext.refl _) rfl
      exact trivial
    · intro L_ wr hX6 hs_ hv_
      obtain ⟨v8, e8, r8⟩ := hv_ 8 (by decide)
      obtain rfl : (.bool false : Value) = v8 := Eq.symm r8
      refine W.weaken (l' := [(25, _), (0, _), (1, _), (5, _)]) (Sub.cons (e8 _ rfl) (Sub.cons (hs_ _ _ rfl) (Sub.cons (hs_ _ _ rfl) (Sub.cons (hs_ _ _ rfl) (Sub.nil))))) ?_
      refine W.nil ?_
      refine At.thenCode ?_
      refine C.condF rfl ?_
      refine C.skip ?_
      refine At.blockNormal ?_
      refine At.thenCode ?_
      refine C.region ?_
      refine W.move rfl rfl ?_
      first | refine W.addI rfl rfl (by omega) rfl ?_ | refine W.addW rfl rfl rfl ?_
      refine W.assign rfl rfl ?_
      refine W.nil ?_
      refine At.thenRound (i + 1) (Sub.cons (rfl) (Sub.cons (rfl) (Sub.cons (look_eq rfl (iV (by omega))) (Sub.nil)))) (show (i + 1) ≤ xs.length ∧ Ext w _ from ?_) (show xs.length - (i + 1) < xs.length - i from ?_)
      · exact ⟨by omega, hXl.ext hX6⟩
      · omega
  · refine C.exit ?_
    refine At.thenExit ?_
    refine At.thenExit ?_
    refine At.blockSelf ?_
    refine At.thenCode ?_
    refine C.seq ?_
    refine C.region ?_
    refine W.assign rfl rfl ?_
    refine W.nil ?_
    refine At.thenCode ?_
    refine C.ret ?_
    refine At.ret1 Try.results55 rfl ?_
    exact ⟨rfl, hXl⟩
theorem SameLetters_ok (a1 : Option Addr) (c1 : Nat) (a2 : Option Addr) (c2 : Nat) (xs : List Let) (w : World) (h1 : Els NoA w 33 RLet a1 c1 xs) (h2 : Els NoA w 33 RLet a2 c2 xs) (hl : xs.length ≤ 1000000) :
    Ct Try.prog 56 #[.slice a1 xs.length c1, .slice a2 xs.length c2] w (fun v w' => v = .bool true ∧ Ext w w') := by
  refine Ct.enter [(0, .slice a1 xs.length c1), (1, .slice a2 xs.length c2)] Try.func56 rfl rfl rfl rfl ?_
  refine C.seq ?_
  refine C.region ?_
  refine W.assign rfl rfl ?_
  refine W.nil ?_
  refine At.thenCode ?_
  refine C.seq ?_
  refine C.seq ?_
  refine C.region ?_
  refine W.move rfl rfl ?_
  refine W.lenS rfl Try.underlying58 rfl ?_
  refine W.move rfl rfl ?_
  refine W.lenS rfl Try.underlying58 rfl ?_
  refine W.neqI rfl rfl rfl ?_
  refine W.eqv (bF (fun h => h rfl)) ?_
  refine W.nil ?_
  refine At.thenCode ?_
  refine C.condF rfl ?_
  refine C.skip ?_
  refine At.thenCode ?_
  refine C.seq ?_
  refine C.seq ?_
  refine C.region ?_
  refine W.assign rfl rfl ?_
  refine W.nil ?_
  refine At.thenCode ?_
  refine C.block ?_
  refine C.loop (X := Nat) (fun x_ => [(0, .slice a1 xs.length c1), (1, .slice a2 xs.length c2), (5, .int .i64 (x_ : Int))]) (fun x_ wl => x_ ≤ xs.length ∧ Ext w wl) (fun x_ => xs.length - x_) (0) (Sub.cons (rfl) (Sub.cons (rfl) (Sub.cons (rfl) (Sub.nil)))) ?start1 ?_
  case start1 =>
    show (0) ≤ xs.length ∧ Ext w _
    exact ⟨by omega, Ext.refl _⟩
  rintro i wl hI_
  replace hI_ : i ≤ xs.length ∧ Ext w wl := hI_
  obtain ⟨hi, hXl⟩ := hI_
  refine C.weaken (l' := [(0, .slice a1 xs.length c1), (1, .slice a2 xs.length c2), (5, .int .i64 (i : Int))]) (Sub.cons (rfl) (Sub.cons (rfl) (Sub.cons (rfl) (Sub.nil)))) ?_
  refine C.seq ?_
  refine C.seq ?_
  refine C.region ?_
  refine W.move rfl rfl ?_
  refine W.move rfl rfl ?_
  refine W.lenS rfl Try.underlying58 rfl ?_
  refine W.lssI rfl rfl rfl ?_
  refine W.nil ?_
  refine At.thenCode ?_
  first | refine C.condD rfl (fun c14 => ?_) (fun c14 => ?_) | refine C.cond rfl (fun c14 => ?_) (fun c14 => ?_)
  · have hlt : i < xs.length := by omega
    refine C.skip ?_
    refine At.thenCode ?_
    refine C.seq ?_
    refine C.block ?_
    refine C.seq ?_
    refine C.regionAny 26 ((fun v w => v = .slice a1 xs.length c1) :: (fun v w => v = .int .i64 (i : Int)) :: (fun v w => ∃ ad, v = .pointer (some ad) ∧ ∃ v1, Cells w ad (xs[i].1.map byteV ++ [v1]) ∧ RByt NoA w [v1] xs[i].2 ∧ xs[i].1.length = 32) :: (fun v w => ∃ ad, v = .pointer (some ad) ∧ Cells w ad (xs[i].1.map byteV) ∧ xs[i].1.length = 32) :: (fun v w => v = .agg (xs[i].1.map byteV).toArray) :: (fun v w => v = .slice a2 xs.length c2) :: (fun v w => v = .int .i64 (i : Int)) :: (fun v w => ∃ ad, v = .pointer (some ad) ∧ ∃ v1, Cells w ad (xs[i].1.map byteV ++ [v1]) ∧ RByt NoA w [v1] xs[i].2 ∧ xs[i].1.length = 32) :: (fun v w => ∃ ad, v = .pointer (some ad) ∧ Cells w ad (xs[i].1.map byteV) ∧ xs[i].1.length = 32) :: (fun v w => v = .agg (xs[i].1.map byteV).toArray) :: (fun v w => v = .bool false) :: (fun v w => v = .bool false) :: (fun v w => v = .slice a1 xs.length c1) :: (fun v w => v = .int .i64 (i : Int)) :: (fun v w => ∃ ad, v = .pointer (some ad) ∧ ∃ v1, Cells w ad (xs[i].1.map byteV ++ [v1]) ∧ RByt NoA w [v1] xs[i].2 ∧ xs[i].1.length = 32) :: (fun v w => ∃ ad v1, v = .pointer (some ad) ∧ w.cell? ad = some v1 ∧ RByt NoA w [v1] xs[i].2) :: (fun v w => RByt NoA w [v] xs[i].2) :: (fun v w => v = strV xs[i].2) :: (fun v w => v = .slice a2 xs.length c2) :: (fun v w => v = .int .i64 (i : Int)) :: (fun v w => ∃ ad, v = .pointer (some ad) ∧ ∃ v1, Cells w ad (xs[i].1.map byteV ++ [v1]) ∧ RByt NoA w [v1] xs[i].2 ∧ xs[i].1.length = 32) :: (fun v w => ∃ ad v1, v = .pointer (some ad) ∧ w.cell? ad = some v1 ∧ RByt NoA w [v1] xs[i].2) :: (fun v w => RByt NoA w [v] xs[i].2) :: (fun v w => v = strV xs[i].2) :: (fun v w => v = .bool false) :: (fun v w => v = .bool false) :: []) [(0, .slice a1 xs.length c1), (1, .slice a2 xs.length c2), (5, .int .i64 (i : Int))] [] (Sub.cons (rfl) (Sub.cons (rfl) (Sub.cons (rfl) (Sub.nil)))) (Sub.nil) (Sub.cons (rfl) (Sub.cons (rfl) (Sub.cons (rfl) (Sub.nil)))) (by kernel_rfl) rfl rfl rfl (And.intro (fun _ _ _ h _ => h) (And.intro (fun _ _ _ h _ => h) (And.intro (fun _ _ _ h g => by obtain ⟨ad, e, v1, h1, h2, h3⟩ := h; exact ⟨ad, e, v1, h1.chg g (fun c => c), RdOk.ext rByt h2 g, h3⟩) (And.intro (fun _ _ _ h g => by obtain ⟨ad, e, h1, h3⟩ := h; exact ⟨ad, e, h1.chg g (fun c => c), h3⟩) (And.intro (fun _ _ _ h _ => h) (And.intro (fun _ _ _ h _ => h) (And.intro (fun _ _ _ h _ => h) (And.intro (fun _ _ _ h g => by obtain ⟨ad, e, v1, h1, h2, h3⟩ := h; exact ⟨ad, e, v1, h1.chg g (fun c => c), RdOk.ext rByt h2 g, h3⟩) (And.intro (fun _ _ _ h g => by obtain ⟨ad, e, h1, h3⟩ := h; exact ⟨ad, e, h1.chg g (fun c => c), h3⟩) (And.intro (fun _ _ _ h _ => h) (And.intro (fun _ _ _ h _ => h) (And.intro (fun _ _ _ h _ => h) (And.intro (fun _ _ _ h _ => h) (And.intro (fun _ _ _ h _ => h) (And.intro (fun _ _ _ h g => by obtain ⟨ad, e, v1, h1, h2, h3⟩ := h; exact ⟨ad, e, v1, h1.chg g (fun c => c), RdOk.ext rByt h2 g, h3⟩) (And.intro (fun _ _ _ h g => by obtain ⟨ad, v1, e, h1, h2⟩ := h; exact ⟨ad, v1, e, Chg.cell g h1 fun c => c, RdOk.ext rByt h2 g⟩) (And.intro (fun _ _ _ h g => RdOk.ext rByt h g) (And.intro (fun _ _ _ h _ => h) (And.intro (fun _ _ _ h _ => h) (And.intro (fun _ _ _ h _ => h) (And.intro (fun _ _ _ h g => by obtain ⟨ad, e, v1, h1, h2, h3⟩ := h; exact ⟨ad, e, v1, h1.chg g (fun c => c), RdOk.ext rByt h2 g, h3⟩) (And.intro (fun _ _ _ h g => by obtain ⟨ad, v1, e, h1, h2⟩ := h; exact ⟨ad, v1, e, Chg.cell g h1 fun c => c, RdOk.ext rByt h2 g⟩) (And.intro (fun _ _ _ h g => RdOk.ext rByt h g) (And.intro (fun _ _ _ h _ => h) (And.intro (fun _ _ _ h _ => h) (And.intro (fun _ _ _ h _ => h) (trivial))))))))))))))))))))))))))) ?_ ?_
    · refine And.intro ?_ ?_
      · intro L_ wr hX_ hs_ hf_ hd_
        refine W.step [(0, _)] (Sub.cons (hs_ _ _ rfl) (Sub.refl _)) ?_
        refine W.move rfl rfl ?_
        refine W.nil ?_
        exact At.step (Ext.refl _) rfl
      refine And.intro ?_ ?_
      · intro L_ wr hX_ hs_ hf_ hd_
        refine W.step [(5, _)] (Sub.cons (hs_ _ _ rfl) (Sub.refl _)) ?_
        refine W.move rfl rfl ?_
        refine W.nil ?_
        exact At.step (Ext.refl _) rfl
      refine And.intro ?_ ?_
      · intro L_ wr hX_ hs_ hf_ hd_
        obtain ⟨v0, e0, r0⟩ := hd_ 0 rfl
        obtain rfl : (.slice a1 xs.length c1 : Value) = v0 := Eq.symm r0
        obtain ⟨v1, e1, r1⟩ := hd_ 1 rfl
        obtain rfl : (.int .i64 (i : Int) : Value) = v1 := Eq.symm r1
        refine W.step [(17, _), (18, _)] (Sub.cons (e0 _ rfl) (Sub.cons (e1 _ rfl) (Sub.refl _))) ?_
        refine W.indexE ELet Try.underlying58 rfl ((h1.ext rLet hXl).ext rLet hX_) rfl hlt rfl ?_
        rintro ad19 cs19 hc19 ⟨v19, rfl, hR19, hx19⟩ _
        refine W.nil ?_
        exact At.step (Ext.refl _) ⟨ad19, rfl, v19, hc19, hR19, hx19⟩
      refine And.intro ?_ ?_
      · intro L_ wr hX_ hs_ hf_ hd_
        obtain ⟨v2, e2, r2⟩ := hd_ 2 rfl
        obtain ⟨ad2, rfl, v2, hc2, hR2, hk2⟩ := r2
        refine W.step [(19, _)] (Sub.cons (e2 _ rfl) (Sub.refl _)) ?_
        refine W.fieldAddr (off := 0) (size := 32) (t := 34) (Fld.of (by kernel_rfl)) rfl rfl rfl ?_
        refine W.nil ?_
        exact At.step (Ext.refl _) ⟨ad2.add 0, rfl, by rw [add_zero']; have := hc2.take 32; rwa [List.take_append_of_le_length (by simp [hk2]), List.take_of_length_le (by simp [hk2])] at this, hk2⟩
      refine And.intro ?_ ?_
      · intro L_ wr hX_ hs_ hf_ hd_
        obtain ⟨v3, e3, r3⟩ := hd_ 3 rfl
        obtain ⟨ad3, rfl, hc3, hk3⟩ := r3
        refine W.step [(20, _)] (Sub.cons (e3 _ rfl) (Sub.refl _)) ?_
        refine W.loadA rfl hc3 Try.underlying34 rfl (by rw [List.length_map, hk3]; kernel_rfl) rfl ?_
        refine W.nil ?_
        exact At.step (Ext.refl _) rfl
      refine And.intro ?_ ?_
      · intro L_ wr hX_ hs_ hf_ hd_
        refine W.step [(1, _)] (Sub.cons (hs_ _ _ rfl) (Sub.refl _)) ?_
        refine W.move rfl rfl ?_
        refine W.nil ?_
        exact At.step (Ext.refl _) rfl
      refine And.intro ?_ ?_
      · intro L_ wr hX_ hs_ hf_ hd_
        refine W.step [(5, _)] (Sub.cons (hs_ _ _ rfl) (Sub.refl _)) ?_
        refine W.move rfl rfl ?_
        refine W.nil ?_
        exact At.step (Ext.refl _) rfl
      refine And.intro ?_ ?_
      · intro L_ wr hX_ hs_ hf_ hd_
        obtain ⟨v5, e5, r5⟩ := hd_ 5 rfl
        obtain rfl : (.slice a2 xs.length c2 : Value) = v5 := Eq.symm r5
        obtain ⟨v6, e6, r6⟩ := hd_ 6 rfl
        obtain rfl : (.int .i64 (i : Int) : Value) = v6 := Eq.symm r6
        refine W.step [(22, _), (23, _)] (Sub.cons (e5 _ rfl) (Sub.cons (e6 _ rfl) (Sub.refl _))) ?_
        refine W.indexE ELet Try.underlying58 rfl ((h2.ext rLet hXl).ext rLet hX_) rfl hlt rfl ?_
        rintro ad24 cs24 hc24 ⟨v24, rfl, hR24, hx24⟩ _
        refine W.nil ?_
        exact At.step (Ext.refl _) ⟨ad24, rfl, v24, hc24, hR24, hx24⟩
      refine And.intro ?_ ?_
      · intro L_ wr hX_ hs_ hf_ hd_
        obtain ⟨v7, e7, r7⟩ := hd_ 7 rfl
        obtain ⟨ad7, rfl, v7, hc7, hR7, hk7⟩ := r7
        refine W.step [(24, _)] (Sub.cons (e7 _ rfl) (Sub.refl _)) ?_
        refine W.fieldAddr (off := 0) (size := 32) (t := 34) (Fld.of (by kernel_rfl)) rfl rfl rfl ?_
        refine W.nil ?_
        exact At.step (Ext.refl _) ⟨ad7.add 0, rfl, by rw [add_zero']; have := hc7.take 32; rwa [List.take_append_of_le_length (by simp [hk7]), List.take_of_length_le (by simp [hk7])] at this, hk7⟩
      refine And.intro ?_ ?_
      · intro L_ wr hX_ hs_ hf_ hd_
        obtain ⟨v8, e8, r8⟩ := hd_ 8 rfl
        obtain ⟨ad8, rfl, hc8, hk8⟩ := r8
        refine W.step [(25, _)] (Sub.cons (e8 _ rfl) (Sub.refl _)) ?_
        refine W.loadA rfl hc8 Try.underlying34 rfl (by rw [List.length_map, hk8]; kernel_rfl) rfl ?_
        refine W.nil ?_
        exact At.step (Ext.refl _) rfl
      refine And.intro ?_ ?_
      · intro L_ wr hX_ hs_ hf_ hd_
        obtain ⟨v4, e4, r4⟩ := hd_ 4 rfl
        obtain rfl : (.agg (xs[i].1.map byteV).toArray : Value) = v4 := Eq.symm r4
        obtain ⟨v9, e9, r9⟩ := hd_ 9 rfl
        obtain rfl : (.agg (xs[i].1.map byteV).toArray : Value) = v9 := Eq.symm r9
        refine W.step [(21, _), (26, _)] (Sub.cons (e4 _ rfl) (Sub.cons (e9 _ rfl) (Sub.refl _))) ?_
        have hk : xs[i].1.length = 32 := by obtain ⟨_, hh⟩ := Cod.Els.get h1 hlt; obtain ⟨_, _, _, hh⟩ := hh; exact hh
        refine W.neqKey (n := 32) Try.underlying34 Try.underlying5 (by kernel_rfl) rfl rfl hk hk (by kernel_rfl) rfl ?_
        refine W.eqv (bF (fun h => h rfl)) ?_
        refine W.nil ?_
        exact At.step (Ext.refl _) rfl
      refine And.intro ?_ ?_
      · intro L_ wr hX_ hs_ hf_ hd_
        obtain ⟨v10, e10, r10⟩ := hd_ 10 rfl
        obtain rfl : (.bool false : Value) = v10 := Eq.symm r10
        refine W.step [(27, _)] (Sub.cons (e10 _ rfl) (Sub.refl _)) ?_
        refine W.move rfl rfl ?_
        refine W.nil ?_
        exact At.step (Ext.refl _) rfl
      refine And.intro ?_ ?_
      · intro L_ wr hX_ hs_ hf_ hd_
        obtain ⟨v11, e11, r11⟩ := hd_ 11 rfl
        obtain rfl : (.bool false : Value) = v11 := Eq.symm r11
        refine W.step [(0, _), (28, _)] (Sub.cons (hs_ _ _ rfl) (Sub.cons (e11 _ rfl) (Sub.refl _))) ?_
        refine W.wants rfl rfl rfl rfl ?_
        refine W.move rfl rfl ?_
        refine W.nil ?_
        exact At.step (Ext.refl _) rfl
      refine And.intro ?_ ?_
      · intro L_ wr hX_ hs_ hf_ hd_
        obtain ⟨v11, e11, r11⟩ := hd_ 11 rfl
        obtain rfl : (.bool false : Value) = v11 := Eq.symm r11
        refine W.step [(5, _), (28, _)] (Sub.cons (hs_ _ _ rfl) (Sub.cons (e11 _ rfl) (Sub.refl _))) ?_
        refine W.wants rfl rfl rfl rfl ?_
        refine W.move rfl rfl ?_
        refine W.nil ?_
        exact At.step (Ext.refl _) rfl
      refine And.intro ?_ ?_
      · intro L_ wr hX_ hs_ hf_ hd_
        obtain ⟨v12, e12, r12⟩ := hd_ 12 rfl
        obtain rfl : (.slice a1 xs.length c1 : Value) = v12 := Eq.symm r12
        obtain ⟨v13, e13, r13⟩ := hd_ 13 rfl
        obtain rfl : (.int .i64 (i : Int) : Value) = v13 := Eq.symm r13
        obtain ⟨v11, e11, r11⟩ := hd_ 11 rfl
        obtain rfl : (.bool false : Value) = v11 := Eq.symm r11
        refine W.step [(29, _), (30, _), (28, _)] (Sub.cons (e12 _ rfl) (Sub.cons (e13 _ rfl) (Sub.cons (e11 _ rfl) (Sub.refl _)))) ?_
        refine W.wants rfl rfl rfl rfl ?_
        refine W.indexE ELet Try.underlying58 rfl ((h1.ext rLet hXl).ext rLet hX_) rfl hlt rfl ?_
        rintro ad31 cs31 hc31 ⟨v31, rfl, hR31, hx31⟩ _
        refine W.nil ?_
        exact At.step (Ext.refl _) ⟨ad31, rfl, v31, hc31, hR31, hx31⟩
      refine And.intro ?_ ?_
      · intro L_ wr hX_ hs_ hf_ hd_
        obtain ⟨v14, e14, r14⟩ := hd_ 14 rfl
        obtain ⟨ad14, rfl, v14, hc14, hR14, hk14⟩ := r14
        obtain ⟨v11, e11, r11⟩ := hd_ 11 rfl
        obtain rfl : (.bool false : Value) = v11 := Eq.symm r11
        refine W.step [(31, _), (28, _)] (Sub.cons (e14 _ rfl) (Sub.cons (e11 _ rfl) (Sub.refl _))) ?_
        refine W.wants rfl rfl rfl rfl ?_
        refine W.fieldAddr (off := 32) (size := 1) (t := 27) (Fld.of (by kernel_rfl)) rfl rfl rfl ?_
        refine W.nil ?_
        exact At.step (Ext.refl _) ⟨ad14.add 32, v14, rfl, hc14 32 v14 (by rw [List.getElem?_append_right (by simp [hk14]), List.length_map, hk14]; rfl), hR14⟩
      refine And.intro ?_ ?_
      · intro L_ wr hX_ hs_ hf_ hd_
        obtain ⟨v15, e15, r15⟩ := hd_ 15 rfl
        obtain ⟨ad15, v15, rfl, hc15, hR15⟩ := r15
        obtain ⟨v11, e11, r11⟩ := hd_ 11 rfl
        obtain rfl : (.bool false : Value) = v11 := Eq.symm r11
        refine W.step [(32, _), (28, _)] (Sub.cons (e15 _ rfl) (Sub.cons (e11 _ rfl) (Sub.refl _))) ?_
        refine W.wants rfl rfl rfl rfl ?_
        refine W.load rfl Try.underlying27 rfl hc15 rfl ?_
        refine W.nil ?_
        exact At.step (Ext.refl _) hR15
      refine And.intro ?_ ?_
      · intro L_ wr hX_ hs_ hf_ hd_
        obtain ⟨v16, e16, r16⟩ := hd_ 16 rfl
        obtain ⟨a16, c16, rfl, hs16, _⟩ := RByt.form r16
        obtain ⟨v11, e11, r11⟩ := hd_ 11 rfl
        obtain rfl : (.bool false : Value) = v11 := Eq.symm r11
        refine W.step [(33, _), (28, _)] (Sub.cons (e16 _ rfl) (Sub.cons (e11 _ rfl) (Sub.refl _))) ?_
        refine W.wants rfl rfl rfl rfl ?_
        refine W.bytesStr Try.underlying27 Try.underlying5 Try.underlying9 rfl hs16 rfl ?_
        refine W.nil ?_
        exact At.step (Ext.refl _) rfl
      refine And.intro ?_ ?_
      · intro L_ wr hX_ hs_ hf_ hd_
        obtain ⟨v11, e11, r11⟩ := hd_ 11 rfl
        obtain rfl : (.bool false : Value) = v11 := Eq.symm r11
        refine W.step [(1, _), (28, _)] (Sub.cons (hs_ _ _ rfl) (Sub.cons (e11 _ rfl) (Sub.refl _))) ?_
        refine W.wants rfl rfl rfl rfl ?_
        refine W.move rfl rfl ?_
        refine W.nil ?_
        exact At.step (Ext.refl _) rfl
      refine And.intro ?_ ?_
      · intro L_ wr hX_ hs_ hf_ hd_
        obtain ⟨v11, e11, r11⟩ := hd_ 11 rfl
        obtain rfl : (.bool false : Value) = v11 := Eq.symm r11
        refine W.step [(5, _), (28, _)] (Sub.cons (hs_ _ _ rfl) (Sub.cons (e11 _ rfl) (Sub.refl _))) ?_
        refine W.wants rfl rfl rfl rfl ?_
        refine W.move rfl rfl ?_
        refine W.nil ?_
        exact At.step (Ext.refl _) rfl
      refine And.intro ?_ ?_
      · intro L_ wr hX_ hs_ hf_ hd_
        obtain ⟨v18, e18, r18⟩ := hd_ 18 rfl
        obtain rfl : (.slice a2 xs.length c2 : Value) = v18 := Eq.symm r18
        obtain ⟨v19, e19, r19⟩ := hd_ 19 rfl
        obtain rfl : (.int .i64 (i : Int) : Value) = v19 := Eq.symm r19
        obtain ⟨v11, e11, r11⟩ := hd_ 11 rfl
        obtain rfl : (.bool false : Value) = v11 := Eq.symm r11
        refine W.step [(35, _), (36, _), (28, _)] (Sub.cons (e18 _ rfl) (Sub.cons (e19 _ rfl) (Sub.cons (e11 _ rfl) (Sub.refl _)))) ?_
        refine W.wants rfl rfl rfl rfl ?_
        refine W.indexE ELet Try.underlying58 rfl ((h2.ext rLet hXl).ext rLet hX_) rfl hlt rfl ?_
        rintro ad37 cs37 hc37 ⟨v37, rfl, hR37, hx37⟩ _
        refine W.nil ?_
        exact At.step (Ext.refl _) ⟨ad37, rfl, v37, hc37, hR37, hx37⟩
      refine And.intro ?_ ?_
      · intro L_ wr hX_ hs_ hf_ hd_
        obtain ⟨v20, e20, r20⟩ := hd_ 20 rfl
        obtain ⟨ad20, rfl, v20, hc20, hR20, hk20⟩ := r20
        obtain ⟨v11, e11, r11⟩ := hd_ 11 rfl
        obtain rfl : (.bool false : Value) = v11 := Eq.symm r11
        refine W.step [(37, _), (28, _)] (Sub.cons (e20 _ rfl) (Sub.cons (e11 _ rfl) (Sub.refl _))) ?_
        refine W.wants rfl rfl rfl rfl ?_
        refine W.fieldAddr (off := 32) (size := 1) (t := 27) (Fld.of (by kernel_rfl)) rfl rfl rfl ?_
        refine W.nil ?_
        exact At.step (Ext.refl _) ⟨ad20.add 32, v20, rfl, hc20 32 v20 (by rw [List.getElem?_append_right (by simp [hk20]), List.length_map, hk20]; rfl), hR20⟩
      refine And.intro ?_ ?_
      · intro L_ wr hX_ hs_ hf_ hd_
        obtain ⟨v21, e21, r21⟩ := hd_ 21 rfl
        obtain ⟨ad21, v21, rfl, hc21, hR21⟩ := r21
        obtain ⟨v11, e11, r11⟩ := hd_ 11 rfl
        obtain rfl : (.bool false : Value) = v11 := Eq.symm r11
        refine W.step [(38, _), (28, _)] (Sub.cons (e21 _ rfl) (Sub.cons (e11 _ rfl) (Sub.refl _))) ?_
        refine W.wants rfl rfl rfl rfl ?_
        refine W.load rfl Try.underlying27 rfl hc21 rfl ?_
        refine W.nil ?_
        exact At.step (Ext.refl _) hR21
      refine And.intro ?_ ?_
      · intro L_ wr hX_ hs_ hf_ hd_
        obtain ⟨v22, e22, r22⟩ := hd_ 22 rfl
        obtain ⟨a22, c22, rfl, hs22, _⟩ := RByt.form r22
        obtain ⟨v11, e11, r11⟩ := hd_ 11 rfl
        obtain rfl : (.bool false : Value) = v11 := Eq.symm r11
        refine W.step [(39, _), (28, _)] (Sub.cons (e22 _ rfl) (Sub.cons (e11 _ rfl) (Sub.refl _))) ?_
        refine W.wants rfl rfl rfl rfl ?_
        refine W.bytesStr Try.underlying27 Try.underlying5 Try.underlying9 rfl hs22 rfl ?_
        refine W.nil ?_
        exact At.step (Ext.refl _) rfl
      refine And.intro ?_ ?_
      · intro L_ wr hX_ hs_ hf_ hd_
        obtain ⟨v17, e17, r17⟩ := hd_ 17 rfl
        obtain rfl : (strV xs[i].2 : Value) = v17 := Eq.symm r17
        obtain ⟨v23, e23, r23⟩ := hd_ 23 rfl
        obtain rfl : (strV xs[i].2 : Value) = v23 := Eq.symm r23
        obtain ⟨v11, e11, r11⟩ := hd_ 11 rfl
        obtain rfl : (.bool false : Value) = v11 := Eq.symm r11
        refine W.step [(34, _), (40, _), (28, _)] (Sub.cons (e17 _ rfl) (Sub.cons (e23 _ rfl) (Sub.cons (e11 _ rfl) (Sub.refl _)))) ?_
        refine W.wants rfl rfl rfl rfl ?_
        refine W.neqStr rfl rfl rfl ?_
        refine W.eqv (bF (fun h => h rfl)) ?_
        refine W.nil ?_
        exact At.step (Ext.refl _) rfl
      refine And.intro ?_ ?_
      · intro L_ wr hX_ hs_ hf_ hd_
        obtain ⟨v11, e11, r11⟩ := hd_ 11 rfl
        obtain rfl : (.bool false : Value) = v11 := Eq.symm r11
        obtain ⟨v24, e24, r24⟩ := hd_ 24 rfl
        obtain rfl : (.bool false : Value) = v24 := Eq.symm r24
        refine W.step [(28, _), (41, _)] (Sub.cons (e11 _ rfl) (Sub.cons (e24 _ rfl) (Sub.refl _))) ?_
        refine W.pickF rfl rfl rfl ?_
        refine W.nil ?_
        exact At.step (Ext.refl _) rfl
      exact trivial
    · intro L_ wr hX6 hs_ hv_
      obtain ⟨v25, e25, r25⟩ := hv_ 25 (by decide)
      obtain rfl : (.bool false : Value) = v25 := Eq.symm r25
      refine W.weaken (l' := [(42, _), (0, _), (1, _), (5, _)]) (Sub.cons (e25 _ rfl) (Sub.cons (hs_ _ _ rfl) (Sub.cons (hs_ _ _ rfl) (Sub.cons (hs_ _ _ rfl) (Sub.nil))))) ?_
      refine W.nil ?_
      refine At.thenCode ?_
      refine C.condF rfl ?_
      refine C.skip ?_
      refine At.blockNormal ?_
      refine At.thenCode ?_
      refine C.region ?_
      refine W.move rfl rfl ?_
      first | refine W.addI rfl rfl (by omega) rfl ?_ | refine W.addW rfl rfl rfl ?_
      refine W.assign rfl rfl ?_
      refine W.nil ?_
      refine At.thenRound (i + 1) (Sub.cons (rfl) (Sub.cons (rfl) (Sub.cons (look_eq rfl (iV (by omega))) (Sub.nil)))) (show (i + 1) ≤ xs.length ∧ Ext w _ from ?_) (show xs.length - (i + 1) < xs.length - i from ?_)
      · exact ⟨by omega, hXl.ext hX6⟩
      · omega
  · refine C.exit ?_
    refine At.thenExit ?_
    refine At.thenExit ?_
    refine At.blockSelf ?_
    refine At.thenCode ?_
    refine C.seq ?_
    refine C.region ?_
    refine W.assign rfl rfl ?_
    refine W.nil ?_
    refine At.thenCode ?_
    refine C.ret ?_
    refine At.ret1 Try.results56 rfl ?_
    exact ⟨rfl, hXl⟩
theorem SameBatch_ok (x : BatD) (vi1 vl1 vi2 vl2 : Value) (w : World) (h1 : RNums NoA w [vi1] x.inner) (k1 : RSl 33 RLet NoA w [vl1] x.lets) (h2 : RNums NoA w [vi2] x.inner) (k2 : RSl 33 RLet NoA w [vl2] x.lets) (hl : x.inner.length ≤ 1000000) (hm : x.lets.length ≤ 1000000) :
    Ct Try.prog 26 #[.agg (batC x vi1 vl1).toArray, .agg (batC x vi2 vl2).toArray] w (fun v w' => v = .bool true ∧ Ext w w') := by
  refine Ct.enter [(0, .agg (batC x vi1 vl1).toArray), (1, .agg (batC x vi2 vl2).toArray)] Try.func26 rfl rfl rfl rfl ?_
  obtain ⟨a1, c1, rfl, hs1, _⟩ := h1.form
  obtain ⟨a2, c2, rfl, hs2, _⟩ := h2.form
  obtain ⟨b1, d1, rfl, hE1⟩ := k1.form
  obtain ⟨b2, d2, rfl, hE2⟩ := k2.form
  refine C.seq ?_
  refine C.region ?_
  refine W.box (batC x (.slice a1 x.inner.length c1) (.slice b1 x.lets.length d1)) rfl rfl rfl ?_
  intro g2 w2 hg2 hX2 hB2
  refine W.box (batC x (.slice a2 x.inner.length c2) (.slice b2 x.lets.length d2)) rfl rfl rfl ?_
  intro g3 w3 hg3 hX3 hB3
  have hB2a := hB2.ext hX3
  have hX3a := hX2.ext hX3
  refine W.assign rfl rfl ?_
  refine W.nil ?_
  refine At.thenCode ?_
  refine C.seq ?_
  refine C.region ?_
  refine W.fieldB (off := 0) (size := 1) (t := 3) (Fld.of (by kernel_rfl)) rfl rfl rfl ?_
  refine W.loadB (v := .int .i64 x.round) rfl Try.underlying3 rfl hB2a rfl rfl ?_
  refine W.fieldB (off := 0) (size := 1) (t := 3) (Fld.of (by kernel_rfl)) rfl rfl rfl ?_
  refine W.loadB (v := .int .i64 x.round) rfl Try.underlying3 rfl hB3 rfl rfl ?_
  refine W.eqlI rfl rfl rfl ?_
  refine W.eqv (bT (rfl)) ?_
  refine W.move rfl rfl ?_
  refine W.wants rfl rfl rfl rfl ?_
  refine W.fieldB (off := 1) (size := 1) (t := 3) (Fld.of (by kernel_rfl)) rfl rfl rfl ?_
  refine W.wants rfl rfl rfl rfl ?_
  refine W.loadB (v := .int .i64 x.chain) rfl Try.underlying3 rfl hB2a rfl rfl ?_
  refine W.wants rfl rfl rfl rfl ?_
  refine W.fieldB (off := 1) (size := 1) (t := 3) (Fld.of (by kernel_rfl)) rfl rfl rfl ?_
  refine W.wants rfl rfl rfl rfl ?_
  refine W.loadB (v := .int .i64 x.chain) rfl Try.underlying3 rfl hB3 rfl rfl ?_
  refine W.wants rfl rfl rfl rfl ?_
  refine W.eqlI rfl rfl rfl ?_
  refine W.eqv (bT (rfl)) ?_
  refine W.pickT rfl rfl rfl ?_
  refine W.move rfl rfl ?_
  refine W.wants rfl rfl rfl rfl ?_
  refine W.fieldB (off := 2) (size := 1) (t := 57) (Fld.of (by kernel_rfl)) rfl rfl rfl ?_
  refine W.wants rfl rfl rfl rfl ?_
  refine W.loadB (v := .slice a1 x.inner.length c1) rfl Try.underlying57 rfl hB2a rfl rfl ?_
  refine W.wants rfl rfl rfl rfl ?_
  refine W.fieldB (off := 2) (size := 1) (t := 57) (Fld.of (by kernel_rfl)) rfl rfl rfl ?_
  refine W.wants rfl rfl rfl rfl ?_
  refine W.loadB (v := .slice a2 x.inner.length c2) rfl Try.underlying57 rfl hB3 rfl rfl ?_
  refine W.wants rfl rfl rfl rfl ?_
  refine W.call Try.call55 rfl (Cod.SameNums_ok a1 c1 a2 c2 x.inner _ (hs1.ext hX3a) (hs2.ext hX3a) hl) rfl ?_
  rintro v22 w22 ⟨rfl, hX22⟩
  refine W.eqv (v' := .bool true) (rfl) ?_
  refine W.pickT rfl rfl rfl ?_
  refine W.move rfl rfl ?_
  refine W.wants rfl rfl rfl rfl ?_
  refine W.fieldB (off := 3) (size := 1) (t := 58) (Fld.of (by kernel_rfl)) rfl rfl rfl ?_
  refine W.wants rfl rfl rfl rfl ?_
  refine W.loadB (v := .slice b1 x.lets.length d1) rfl Try.underlying58 rfl (hB2a.ext hX22) rfl rfl ?_
  refine W.wants rfl rfl rfl rfl ?_
  refine W.fieldB (off := 3) (size := 1) (t := 58) (Fld.of (by kernel_rfl)) rfl rfl rfl ?_
  refine W.wants rfl rfl rfl rfl ?_
  refine W.loadB (v := .slice b2 x.lets.length d2) rfl Try.underlying58 rfl (hB3.ext hX22) rfl rfl ?_
  refine W.wants rfl rfl rfl rfl ?_
  refine W.call Try.call56 rfl (Cod.SameLetters_ok b1 d1 b2 d2 x.lets _ (hE1.ext rLet (hX3a.ext hX22)) (hE2.ext rLet (hX3a.ext hX22)) hm) rfl ?_
  rintro v29 w29 ⟨rfl, hX29⟩
  refine W.eqv (v' := .bool true) (rfl) ?_
  refine W.pickT rfl rfl rfl ?_
  refine W.assign rfl rfl ?_
  refine W.nil ?_
  refine At.thenCode ?_
  refine C.ret ?_
  refine At.ret1 Try.results26 rfl ?_
  exact ⟨rfl, (hX3a.ext hX22).ext hX29⟩
theorem SameSubmission_ok (s : SubD) (v1 v2 : Value) (w : World) (ho : SubOk s) (h1 : RByt NoA w [v1] s.box) (h2 : RByt NoA w [v2] s.box) :
    Ct Try.prog 18 #[.agg (subC s v1).toArray, .agg (subC s v2).toArray] w (fun v w' => v = .bool true ∧ Ext w w') := by
  refine Ct.enter [(0, .agg (subC s v1).toArray), (1, .agg (subC s v2).toArray)] Try.func18 rfl rfl rfl rfl ?_
  have hkey : ∀ v, ((subC s v).drop 0).take 32 = s.user.map byteV := fun v => by unfold subC; rw [List.drop_zero, List.take_append_of_le_length (by simp [ho.1]), List.take_of_length_le (by simp [ho.1])]
  have hent : ∀ v, ((subC s v).drop 32).take 2 = [u64V s.x, v] := fun v => by unfold subC; rw [List.drop_append, List.drop_of_length_le (by simp [ho.1]), List.length_map, ho.1]; rfl
  have hpr1 : ∀ v, ((subC s v).drop 34).take 2 = [u64V s.c1, u64V s.s1] := fun v => by unfold subC; rw [List.drop_append, List.drop_of_length_le (by simp [ho.1]), List.length_map, ho.1]; rfl
  have hpr2 : ∀ v, ((subC s v).drop 36).take 2 = [u64V s.c2, u64V s.s2] := fun v => by unfold subC; rw [List.drop_append, List.drop_of_length_le (by simp [ho.1]), List.length_map, ho.1]; rfl
  have hty : ∀ a b : Nat, Typed [.u64, .u64] [u64V a, u64V b] := fun a b => ⟨⟨_, rfl⟩, ⟨_, rfl⟩, trivial⟩
  refine C.seq ?_
  refine C.region ?_
  refine W.box (subC s v1) rfl rfl rfl ?_
  intro g2 w2 hg2 hX2 hB2
  refine W.box (subC s v2) rfl rfl rfl ?_
  intro g3 w3 hg3 hX3 hB3
  have hB2a := hB2.ext hX3
  have hX3a := hX2.ext hX3
  refine W.assign rfl rfl ?_
  refine W.nil ?_
  refine At.thenCode ?_
  refine C.seq ?_
  refine C.region ?_
  refine W.fieldB (off := 0) (size := 32) (t := 34) (Fld.of (by kernel_rfl)) rfl rfl rfl ?_
  have hc := Bk.cellsN (o := 0) (n := 32) hB2a
  rw [hkey] at hc
  refine W.loadA rfl hc Try.underlying34 rfl (by rw [List.length_map, ho.1]; kernel_rfl) rfl ?_
  refine W.fieldB (off := 0) (size := 32) (t := 34) (Fld.of (by kernel_rfl)) rfl rfl rfl ?_
  have hc := Bk.cellsN (o := 0) (n := 32) hB3
  rw [hkey] at hc
  refine W.loadA rfl hc Try.underlying34 rfl (by rw [List.length_map, ho.1]; kernel_rfl) rfl ?_
  refine W.eqlKey (n := 32) Try.underlying34 Try.underlying5 (by kernel_rfl) rfl rfl ho.1 ho.1 (by kernel_rfl) rfl ?_
  refine W.eqv (bT (rfl)) ?_
  refine W.move rfl rfl ?_
  refine W.wants rfl rfl rfl rfl ?_
  refine W.fieldB (off := 32) (size := 2) (t := 36) (Fld.of (by kernel_rfl)) rfl rfl rfl ?_
  refine W.wants rfl rfl rfl rfl ?_
  have hc := Bk.cellsN (o := 32) (n := 2) hB2a
  rw [hent] at hc
  refine W.loadA rfl hc Try.underlying36 rfl (by kernel_rfl) rfl ?_
  refine W.wants rfl rfl rfl rfl ?_
  refine W.fieldB (off := 32) (size := 2) (t := 36) (Fld.of (by kernel_rfl)) rfl rfl rfl ?_
  refine W.wants rfl rfl rfl rfl ?_
  have hc := Bk.cellsN (o := 32) (n := 2) hB3
  rw [hent] at hc
  refine W.loadA rfl hc Try.underlying36 rfl (by kernel_rfl) rfl ?_
  refine W.wants rfl rfl rfl rfl ?_
  refine W.call Try.call46 rfl (Cod.SameEntry_ok (s.x, s.box) v1 v2 _ (RdOk.ext rByt h1 hX3a) (RdOk.ext rByt h2 hX3a)) rfl ?_
  rintro v15 w15 ⟨rfl, hX15⟩
  refine W.eqv (v' := .bool true) (rfl) ?_
  refine W.pickT rfl rfl rfl ?_
  refine W.move rfl rfl ?_
  refine W.wants rfl rfl rfl rfl ?_
  refine W.fieldB (off := 34) (size := 2) (t := 38) (Fld.of (by kernel_rfl)) rfl rfl rfl ?_
  refine W.wants rfl rfl rfl rfl ?_
  have hc := Bk.cellsN (o := 34) (n := 2) (hB2a.ext hX15)
  rw [hpr1] at hc
  refine W.loadA rfl hc Try.underlying38 rfl (by kernel_rfl) rfl ?_
  refine W.wants rfl rfl rfl rfl ?_
  refine W.fieldB (off := 34) (size := 2) (t := 38) (Fld.of (by kernel_rfl)) rfl rfl rfl ?_
  refine W.wants rfl rfl rfl rfl ?_
  have hc := Bk.cellsN (o := 34) (n := 2) (hB3.ext hX15)
  rw [hpr1] at hc
  refine W.loadA rfl hc Try.underlying38 rfl (by kernel_rfl) rfl ?_
  refine W.wants rfl rfl rfl rfl ?_
  refine W.eqlP (ks := [.u64, .u64]) (by kernel_rfl) (by kernel_rfl) rfl rfl (hty _ _) (hty _ _) (by kernel_rfl) rfl ?_
  refine W.eqv (bT (rfl)) ?_
  refine W.pickT rfl rfl rfl ?_
  refine W.move rfl rfl ?_
  refine W.wants rfl rfl rfl rfl ?_
  refine W.fieldB (off := 36) (size := 2) (t := 38) (Fld.of (by kernel_rfl)) rfl rfl rfl ?_
  refine W.wants rfl rfl rfl rfl ?_
  have hc := Bk.cellsN (o := 36) (n := 2) (hB2a.ext hX15)
  rw [hpr2] at hc
  refine W.loadA rfl hc Try.underlying38 rfl (by kernel_rfl) rfl ?_
  refine W.wants rfl rfl rfl rfl ?_
  refine W.fieldB (off := 36) (size := 2) (t := 38) (Fld.of (by kernel_rfl)) rfl rfl rfl ?_
  refine W.wants rfl rfl rfl rfl ?_
  have hc := Bk.cellsN (o := 36) (n := 2) (hB3.ext hX15)
  rw [hpr2] at hc
  refine W.loadA rfl hc Try.underlying38 rfl (by kernel_rfl) rfl ?_
  refine W.wants rfl rfl rfl rfl ?_
  refine W.eqlP (ks := [.u64, .u64]) (by kernel_rfl) (by kernel_rfl) rfl rfl (hty _ _) (hty _ _) (by kernel_rfl) rfl ?_
  refine W.eqv (bT (rfl)) ?_
  refine W.pickT rfl rfl rfl ?_
  refine W.assign rfl rfl ?_
  refine W.nil ?_
  refine At.thenCode ?_
  refine C.ret ?_
  refine At.ret1 Try.results18 rfl ?_
  exact ⟨rfl, hX3a.ext hX15⟩
end Go.Proofs.Ytpjdkobmcjgcjaa.Cod
