/- The reference's comparisons: of what is the same they tell so. -/
import Derived.Test.YthiijdbiikljpaaCodV
namespace Go.Proofs.Ythiijdbiikljpaa.Cod
open Go Go.RowKit Go.Proofs.Ythiijdbiikljpaa.KW Go.Proofs.Ythiijdbiikljpaa.Words Go.Proofs.Ythiijdbiikljpaa.Grp
set_option linter.unusedVariables false
set_option linter.unusedSimpArgs false
set_option maxRecDepth 100000
abbrev NoA : Nat → Prop := fun _ => False
theorem SameLetters_ok (a1 : Option Addr) (c1 : Nat) (a2 : Option Addr) (c2 : Nat) (xs : List Let) (w : World) (h1 : Els NoA w 33 RLet a1 c1 xs) (h2 : Els NoA w 33 RLet a2 c2 xs) (hl : xs.length ≤ 1000000) :
    Ct Try.prog 19 #[.slice a1 xs.length c1, .slice a2 xs.length c2] w (fun v w' => v = .bool true ∧ Ext w w') := by
  refine Ct.enter [(0, .slice a1 xs.length c1), (1, .slice a2 xs.length c2)] Try.func19 rfl rfl rfl rfl ?_
  refine C.seq ?_
  refine C.region ?_
  refine W.assign rfl rfl ?_
  refine W.nil ?_
  refine At.thenCode ?_
  refine C.seq ?_
  refine C.seq ?_
  refine C.region ?_
  refine W.move rfl rfl ?_
  refine W.lenS rfl Try.underlying31 rfl ?_
  refine W.move rfl rfl ?_
  refine W.lenS rfl Try.underlying31 rfl ?_
  refine W.neqI rfl rfl rfl ?_
  refine W.eqv (bF (fun h => h rfl)) ?_
  refine W.nil ?_
  refine At.thenCode ?_
  refine C.condF rfl ?_
  refine C.skip ?_
  refine At.thenCode ?_
  refine C.seq ?_
  refine C.seq ?_
  refine C.region ?_
  refine W.assign rfl rfl ?_
  refine W.nil ?_
  refine At.thenCode ?_
  refine C.block ?_
  refine C.loop (X := Nat) (fun x_ => [(0, .slice a1 xs.length c1), (1, .slice a2 xs.length c2), (5, .int .i64 (x_ : Int))]) (fun x_ wl => x_ ≤ xs.length ∧ Ext w wl) (fun x_ => xs.length - x_) (0) (Sub.cons (rfl) (Sub.cons (rfl) (Sub.cons (rfl) (Sub.nil)))) ?start1 ?_
  case start1 =>
    show (0) ≤ xs.length ∧ Ext w _
    exact ⟨by omega, Ext.refl _⟩
  rintro i wl hI_
  replace hI_ : i ≤ xs.length ∧ Ext w wl := hI_
  obtain ⟨hi, hXl⟩ := hI_
  refine C.weaken (l' := [(0, .slice a1 xs.length c1), (1, .slice a2 xs.length c2), (5, .int .i64 (i : Int))]) (Sub.cons (rfl) (Sub.cons (rfl) (Sub.cons (rfl) (Sub.nil)))) ?_
  refine C.seq ?_
  refine C.seq ?_
  refine C.region ?_
  refine W.move rfl rfl ?_
  refine W.move rfl rfl ?_
  refine W.lenS rfl Try.underlying31 rfl ?_
  refine W.lssI rfl rfl rfl ?_
  refine W.nil ?_
  refine At.thenCode ?_
  first | refine C.condD rfl (fun c14 => ?_) (fun c14 => ?_) | refine C.cond rfl (fun c14 => ?_) (fun c14 => ?_)
  · have hlt : i < xs.length := by omega
    refine C.skip ?_
    refine At.thenCode ?_
    refine C.seq ?_
    refine C.block ?_
    refine C.seq ?_
    refine C.regionAny 26 ((fun v w => v = .slice a1 xs.length c1) :: (fun v w => v = .int .i64 (i : Int)) :: (fun v w => ∃ ad, v = .pointer (some ad) ∧ ∃ v1, Cells w ad (xs[i].1.map byteV ++ [v1]) ∧ RByt NoA w [v1] xs[i].2 ∧ xs[i].1.length = 32) :: (fun v w => ∃ ad, v = .pointer (some ad) ∧ Cells w ad (xs[i].1.map byteV) ∧ xs[i].1.length = 32) :: (fun v w => v = .agg (xs[i].1.map byteV).toArray) :: (fun v w => v = .slice a2 xs.length c2) :: (fun v w => v = .int .i64 (i : Int)) :: (fun v w => ∃ ad, v = .pointer (some ad) ∧ ∃ v1, Cells w ad (xs[i].1.map byteV ++ [v1]) ∧ RByt NoA w [v1] xs[i].2 ∧ xs[i].1.length = 32) :: (fun v w => ∃ ad, v = .pointer (some ad) ∧ Cells w ad (xs[i].1.map byteV) ∧ xs[i].1.length = 32) :: (fun v w => v = .agg (xs[i].1.map byteV).toArray) :: (fun v w => v = .bool false) :: (fun v w => v = .bool false) :: (fun v w => v = .slice a1 xs.length c1) :: (fun v w => v = .int .i64 (i : Int)) :: (fun v w => ∃ ad, v = .pointer (some ad) ∧ ∃ v1, Cells w ad (xs[i].1.map byteV ++ [v1]) ∧ RByt NoA w [v1] xs[i].2 ∧ xs[i].1.length = 32) :: (fun v w => ∃ ad v1, v = .pointer (some ad) ∧ w.cell? ad = some v1 ∧ RByt NoA w [v1] xs[i].2) :: (fun v w => RByt NoA w [v] xs[i].2) :: (fun v w => v = strV xs[i].2) :: (fun v w => v = .slice a2 xs.length c2) :: (fun v w => v = .int .i64 (i : Int)) :: (fun v w => ∃ ad, v = .pointer (some ad) ∧ ∃ v1, Cells w ad (xs[i].1.map byteV ++ [v1]) ∧ RByt NoA w [v1] xs[i].2 ∧ xs[i].1.length = 32) :: (fun v w => ∃ ad v1, v = .pointer (some ad) ∧ w.cell? ad = some v1 ∧ RByt NoA w [v1] xs[i].2) :: (fun v w => RByt NoA w [v] xs[i].2) :: (fun v w => v = strV xs[i].2) :: (fun v w => v = .bool false) :: (fun v w => v = .bool false) :: []) [(0, .slice a1 xs.length c1), (1, .slice a2 xs.length c2), (5, .int .i64 (i : Int))] [] (Sub.cons (rfl) (Sub.cons (rfl) (Sub.cons (rfl) (Sub.nil)))) (Sub.nil) (Sub.cons (rfl) (Sub.cons (rfl) (Sub.cons (rfl) (Sub.nil)))) (by kernel_rfl) rfl rfl rfl (And.intro (fun _ _ _ h _ => h) (And.intro (fun _ _ _ h _ => h) (And.intro (fun _ _ _ h g => by obtain ⟨ad, e, v1, h1, h2, h3⟩ := h; exact ⟨ad, e, v1, h1.chg g (fun c => c), RdOk.ext rByt h2 g, h3⟩) (And.intro (fun _ _ _ h g => by obtain ⟨ad, e, h1, h3⟩ := h; exact ⟨ad, e, h1.chg g (fun c => c), h3⟩) (And.intro (fun _ _ _ h _ => h) (And.intro (fun _ _ _ h _ => h) (And.intro (fun _ _ _ h _ => h) (And.intro (fun _ _ _ h g => by obtain ⟨ad, e, v1, h1, h2, h3⟩ := h; exact ⟨ad, e, v1, h1.chg g (fun c => c), RdOk.ext rByt h2 g, h3⟩) (And.intro (fun _ _ _ h g => by obtain ⟨ad, e, h1, h3⟩ := h; exact ⟨ad, e, h1.chg g (fun c => c), h3⟩) (And.intro (fun _ _ _ h _ => h) (And.intro (fun _ _ _ h _ => h) (And.intro (fun _ _ _ h _ => h) (And.intro (fun _ _ _ h _ => h) (And.intro (fun _ _ _ h _ => h) (And.intro (fun _ _ _ h g => by obtain ⟨ad, e, v1, h1, h2, h3⟩ := h; exact ⟨ad, e, v1, h1.chg g (fun c => c), RdOk.ext rByt h2 g, h3⟩) (And.intro (fun _ _ _ h g => by obtain ⟨ad, v1, e, h1, h2⟩ := h; exact ⟨ad, v1, e, Chg.cell g h1 fun c => c, RdOk.ext rByt h2 g⟩) (And.intro (fun _ _ _ h g => RdOk.ext rByt h g) (And.intro (fun _ _ _ h _ => h) (And.intro (fun _ _ _ h _ => h) (And.intro (fun _ _ _ h _ => h) (And.intro (fun _ _ _ h g => by obtain ⟨ad, e, v1, h1, h2, h3⟩ := h; exact ⟨ad, e, v1, h1.chg g (fun c => c), RdOk.ext rByt h2 g, h3⟩) (And.intro (fun _ _ _ h g => by obtain ⟨ad, v1, e, h1, h2⟩ := h; exact ⟨ad, v1, e, Chg.cell g h1 fun c => c, RdOk.ext rByt h2 g⟩) (And.intro (fun _ _ _ h g => RdOk.ext rByt h g) (And.intro (fun _ _ _ h _ => h) (And.intro (fun _ _ _ h _ => h) (And.intro (fun _ _ _ h _ => h) (trivial))))))))))))))))))))))))))) ?_ ?_
    · refine And.intro ?_ ?_
      · intro L_ wr hX_ hs_ hf_ hd_
        refine W.step [(0, _)] (Sub.cons (hs_ _ _ rfl) (Sub.refl _)) ?_
        refine W.move rfl rfl ?_
        refine W.nil ?_
        exact At.step (Ext.refl _) rfl
      refine And.intro ?_ ?_
      · intro L_ wr hX_ hs_ hf_ hd_
        refine W.step [(5, _)] (Sub.cons (hs_ _ _ rfl) (Sub.refl _)) ?_
        refine W.move rfl rfl ?_
        refine W.nil ?_
        exact At.step (Ext.refl _) rfl
      refine And.intro ?_ ?_
      · intro L_ wr hX_ hs_ hf_ hd_
        obtain ⟨v0, e0, r0⟩ := hd_ 0 rfl
        obtain rfl : (.slice a1 xs.length c1 : Value) = v0 := Eq.symm r0
        obtain ⟨v1, e1, r1⟩ := hd_ 1 rfl
        obtain rfl : (.int .i64 (i : Int) : Value) = v1 := Eq.symm r1
        refine W.step [(17, _), (18, _)] (Sub.cons (e0 _ rfl) (Sub.cons (e1 _ rfl) (Sub.refl _))) ?_
        refine W.indexE ELet Try.underlying31 rfl ((h1.ext rLet hXl).ext rLet hX_) rfl hlt rfl ?_
        rintro ad19 cs19 hc19 ⟨v19, rfl, hR19, hx19⟩ _
        refine W.nil ?_
        exact At.step (Ext.refl _) ⟨ad19, rfl, v19, hc19, hR19, hx19⟩
      refine And.intro ?_ ?_
      · intro L_ wr hX_ hs_ hf_ hd_
        obtain ⟨v2, e2, r2⟩ := hd_ 2 rfl
        obtain ⟨ad2, rfl, v2, hc2, hR2, hk2⟩ := r2
        refine W.step [(19, _)] (Sub.cons (e2 _ rfl) (Sub.refl _)) ?_
        refine W.fieldAddr (off := 0) (size := 32) (t := 50) (Fld.of (by kernel_rfl)) rfl rfl rfl ?_
        refine W.nil ?_
        exact At.step (Ext.refl _) ⟨ad2.add 0, rfl, by rw [add_zero']; have := hc2.take 32; rwa [List.take_append_of_le_length (by simp [hk2]), List.take_of_length_le (by simp [hk2])] at this, hk2⟩
      refine And.intro ?_ ?_
      · intro L_ wr hX_ hs_ hf_ hd_
        obtain ⟨v3, e3, r3⟩ := hd_ 3 rfl
        obtain ⟨ad3, rfl, hc3, hk3⟩ := r3
        refine W.step [(20, _)] (Sub.cons (e3 _ rfl) (Sub.refl _)) ?_
        refine W.loadA rfl hc3 Try.underlying50 rfl (by rw [List.length_map, hk3]; kernel_rfl) rfl ?_
        refine W.nil ?_
        exact At.step (Ext.refl _) rfl
      refine And.intro ?_ ?_
      · intro L_ wr hX_ hs_ hf_ hd_
        refine W.step [(1, _)] (Sub.cons (hs_ _ _ rfl) (Sub.refl _)) ?_
        refine W.move rfl rfl ?_
        refine W.nil ?_
        exact At.step (Ext.refl _) rfl
      refine And.intro ?_ ?_
      · intro L_ wr hX_ hs_ hf_ hd_
        refine W.step [(5, _)] (Sub.cons (hs_ _ _ rfl) (Sub.refl _)) ?_
        refine W.move rfl rfl ?_
        refine W.nil ?_
        exact At.step (Ext.refl _) rfl
      refine And.intro ?_ ?_
      · intro L_ wr hX_ hs_ hf_ hd_
        obtain ⟨v5, e5, r5⟩ := hd_ 5 rfl
        obtain rfl : (.slice a2 xs.length c2 : Value) = v5 := Eq.symm r5
        obtain ⟨v6, e6, r6⟩ := hd_ 6 rfl
        obtain rfl : (.int .i64 (i : Int) : Value) = v6 := Eq.symm r6
        refine W.step [(22, _), (23, _)] (Sub.cons (e5 _ rfl) (Sub.cons (e6 _ rfl) (Sub.refl _))) ?_
        refine W.indexE ELet Try.underlying31 rfl ((h2.ext rLet hXl).ext rLet hX_) rfl hlt rfl ?_
        rintro ad24 cs24 hc24 ⟨v24, rfl, hR24, hx24⟩ _
        refine W.nil ?_
        exact At.step (Ext.refl _) ⟨ad24, rfl, v24, hc24, hR24, hx24⟩
      refine And.intro ?_ ?_
      · intro L_ wr hX_ hs_ hf_ hd_
        obtain ⟨v7, e7, r7⟩ := hd_ 7 rfl
        obtain ⟨ad7, rfl, v7, hc7, hR7, hk7⟩ := r7
        refine W.step [(24, _)] (Sub.cons (e7 _ rfl) (Sub.refl _)) ?_
        refine W.fieldAddr (off := 0) (size := 32) (t := 50) (Fld.of (by kernel_rfl)) rfl rfl rfl ?_
        refine W.nil ?_
        exact At.step (Ext.refl _) ⟨ad7.add 0, rfl, by rw [add_zero']; have := hc7.take 32; rwa [List.take_append_of_le_length (by simp [hk7]), List.take_of_length_le (by simp [hk7])] at this, hk7⟩
      refine And.intro ?_ ?_
      · intro L_ wr hX_ hs_ hf_ hd_
        obtain ⟨v8, e8, r8⟩ := hd_ 8 rfl
        obtain ⟨ad8, rfl, hc8, hk8⟩ := r8
        refine W.step [(25, _)] (Sub.cons (e8 _ rfl) (Sub.refl _)) ?_
        refine W.loadA rfl hc8 Try.underlying50 rfl (by rw [List.length_map, hk8]; kernel_rfl) rfl ?_
        refine W.nil ?_
        exact At.step (Ext.refl _) rfl
      refine And.intro ?_ ?_
      · intro L_ wr hX_ hs_ hf_ hd_
        obtain ⟨v4, e4, r4⟩ := hd_ 4 rfl
        obtain rfl : (.agg (xs[i].1.map byteV).toArray : Value) = v4 := Eq.symm r4
        obtain ⟨v9, e9, r9⟩ := hd_ 9 rfl
        obtain rfl : (.agg (xs[i].1.map byteV).toArray : Value) = v9 := Eq.symm r9
        refine W.step [(21, _), (26, _)] (Sub.cons (e4 _ rfl) (Sub.cons (e9 _ rfl) (Sub.refl _))) ?_
        have hk : xs[i].1.length = 32 := by obtain ⟨_, hh⟩ := Cod.Els.get h1 hlt; obtain ⟨_, _, _, hh⟩ := hh; exact hh
        refine W.neqKey (n := 32) Try.underlying50 Try.underlying5 (by kernel_rfl) rfl rfl hk hk (by kernel_rfl) rfl ?_
        refine W.eqv (bF (fun h => h rfl)) ?_
        refine W.nil ?_
        exact At.step (Ext.refl _) rfl
      refine And.intro ?_ ?_
      · intro L_ wr hX_ hs_ hf_ hd_
        obtain ⟨v10, e10, r10⟩ := hd_ 10 rfl
        obtain rfl : (.bool false : Value) = v10 := Eq.symm r10
        refine W.step [(27, _)] (Sub.cons (e10 _ rfl) (Sub.refl _)) ?_
        refine W.move rfl rfl ?_
        refine W.nil ?_
        exact At.step (Ext.refl _) rfl
      refine And.intro ?_ ?_
      · intro L_ wr hX_ hs_ hf_ hd_
        obtain ⟨v11, e11, r11⟩ := hd_ 11 rfl
        obtain rfl : (.bool false : Value) = v11 := Eq.symm r11
        refine W.step [(0, _), (28, _)] (Sub.cons (hs_ _ _ rfl) (Sub.cons (e11 _ rfl) (Sub.refl _))) ?_
        refine W.wants rfl rfl rfl rfl ?_
        refine W.move rfl rfl ?_
        refine W.nil ?_
        exact At.step (Ext.refl _) rfl
      refine And.intro ?_ ?_
      · intro L_ wr hX_ hs_ hf_ hd_
        obtain ⟨v11, e11, r11⟩ := hd_ 11 rfl
        obtain rfl : (.bool false : Value) = v11 := Eq.symm r11
        refine W.step [(5, _), (28, _)] (Sub.cons (hs_ _ _ rfl) (Sub.cons (e11 _ rfl) (Sub.refl _))) ?_
        refine W.wants rfl rfl rfl rfl ?_
        refine W.move rfl rfl ?_
        refine W.nil ?_
        exact At.step (Ext.refl _) rfl
      refine And.intro ?_ ?_
      · intro L_ wr hX_ hs_ hf_ hd_
        obtain ⟨v12, e12, r12⟩ := hd_ 12 rfl
        obtain rfl : (.slice a1 xs.length c1 : Value) = v12 := Eq.symm r12
        obtain ⟨v13, e13, r13⟩ := hd_ 13 rfl
        obtain rfl : (.int .i64 (i : Int) : Value) = v13 := Eq.symm r13
        obtain ⟨v11, e11, r11⟩ := hd_ 11 rfl
        obtain rfl : (.bool false : Value) = v11 := Eq.symm r11
        refine W.step [(29, _), (30, _), (28, _)] (Sub.cons (e12 _ rfl) (Sub.cons (e13 _ rfl) (Sub.cons (e11 _ rfl) (Sub.refl _)))) ?_
        refine W.wants rfl rfl rfl rfl ?_
        refine W.indexE ELet Try.underlying31 rfl ((h1.ext rLet hXl).ext rLet hX_) rfl hlt rfl ?_
        rintro ad31 cs31 hc31 ⟨v31, rfl, hR31, hx31⟩ _
        refine W.nil ?_
        exact At.step (Ext.refl _) ⟨ad31, rfl, v31, hc31, hR31, hx31⟩
      refine And.intro ?_ ?_
      · intro L_ wr hX_ hs_ hf_ hd_
        obtain ⟨v14, e14, r14⟩ := hd_ 14 rfl
        obtain ⟨ad14, rfl, v14, hc14, hR14, hk14⟩ := r14
        obtain ⟨v11, e11, r11⟩ := hd_ 11 rfl
        obtain rfl : (.bool false : Value) = v11 := Eq.symm r11
        refine W.step [(31, _), (28, _)] (Sub.cons (e14 _ rfl) (Sub.cons (e11 _ rfl) (Sub.refl _))) ?_
        refine W.wants rfl rfl rfl rfl ?_
        refine W.fieldAddr (off := 32) (size := 1) (t := 51) (Fld.of (by kernel_rfl)) rfl rfl rfl ?_
        refine W.nil ?_
        exact At.step (Ext.refl _) ⟨ad14.add 32, v14, rfl, hc14 32 v14 (by rw [List.getElem?_append_right (by simp [hk14]), List.length_map, hk14]; rfl), hR14⟩
      refine And.intro ?_ ?_
      · intro L_ wr hX_ hs_ hf_ hd_
        obtain ⟨v15, e15, r15⟩ := hd_ 15 rfl
        obtain ⟨ad15, v15, rfl, hc15, hR15⟩ := r15
        obtain ⟨v11, e11, r11⟩ := hd_ 11 rfl
        obtain rfl : (.bool false : Value) = v11 := Eq.symm r11
        refine W.step [(32, _), (28, _)] (Sub.cons (e15 _ rfl) (Sub.cons (e11 _ rfl) (Sub.refl _))) ?_
        refine W.wants rfl rfl rfl rfl ?_
        refine W.load rfl Try.underlying51 rfl hc15 rfl ?_
        refine W.nil ?_
        exact At.step (Ext.refl _) hR15
      refine And.intro ?_ ?_
      · intro L_ wr hX_ hs_ hf_ hd_
        obtain ⟨v16, e16, r16⟩ := hd_ 16 rfl
        obtain ⟨a16, c16, rfl, hs16, _⟩ := RByt.form r16
        obtain ⟨v11, e11, r11⟩ := hd_ 11 rfl
        obtain rfl : (.bool false : Value) = v11 := Eq.symm r11
        refine W.step [(33, _), (28, _)] (Sub.cons (e16 _ rfl) (Sub.cons (e11 _ rfl) (Sub.refl _))) ?_
        refine W.wants rfl rfl rfl rfl ?_
        refine W.bytesStr Try.underlying51 Try.underlying5 Try.underlying9 rfl hs16 rfl ?_
        refine W.nil ?_
        exact At.step (Ext.refl _) rfl
      refine And.intro ?_ ?_
      · intro L_ wr hX_ hs_ hf_ hd_
        obtain ⟨v11, e11, r11⟩ := hd_ 11 rfl
        obtain rfl : (.bool false : Value) = v11 := Eq.symm r11
        refine W.step [(1, _), (28, _)] (Sub.cons (hs_ _ _ rfl) (Sub.cons (e11 _ rfl) (Sub.refl _))) ?_
        refine W.wants rfl rfl rfl rfl ?_
        refine W.move rfl rfl ?_
        refine W.nil ?_
        exact At.step (Ext.refl _) rfl
      refine And.intro ?_ ?_
      · intro L_ wr hX_ hs_ hf_ hd_
        obtain ⟨v11, e11, r11⟩ := hd_ 11 rfl
        obtain rfl : (.bool false : Value) = v11 := Eq.symm r11
        refine W.step [(5, _), (28, _)] (Sub.cons (hs_ _ _ rfl) (Sub.cons (e11 _ rfl) (Sub.refl _))) ?_
        refine W.wants rfl rfl rfl rfl ?_
        refine W.move rfl rfl ?_
        refine W.nil ?_
        exact At.step (Ext.refl _) rfl
      refine And.intro ?_ ?_
      · intro L_ wr hX_ hs_ hf_ hd_
        obtain ⟨v18, e18, r18⟩ := hd_ 18 rfl
        obtain rfl : (.slice a2 xs.length c2 : Value) = v18 := Eq.symm r18
        obtain ⟨v19, e19, r19⟩ := hd_ 19 rfl
        obtain rfl : (.int .i64 (i : Int) : Value) = v19 := Eq.symm r19
        obtain ⟨v11, e11, r11⟩ := hd_ 11 rfl
        obtain rfl : (.bool false : Value) = v11 := Eq.symm r11
        refine W.step [(35, _), (36, _), (28, _)] (Sub.cons (e18 _ rfl) (Sub.cons (e19 _ rfl) (Sub.cons (e11 _ rfl) (Sub.refl _)))) ?_
        refine W.wants rfl rfl rfl rfl ?_
        refine W.indexE ELet Try.underlying31 rfl ((h2.ext rLet hXl).ext rLet hX_) rfl hlt rfl ?_
        rintro ad37 cs37 hc37 ⟨v37, rfl, hR37, hx37⟩ _
        refine W.nil ?_
        exact At.step (Ext.refl _) ⟨ad37, rfl, v37, hc37, hR37, hx37⟩
      refine And.intro ?_ ?_
      · intro L_ wr hX_ hs_ hf_ hd_
        obtain ⟨v20, e20, r20⟩ := hd_ 20 rfl
        obtain ⟨ad20, rfl, v20, hc20, hR20, hk20⟩ := r20
        obtain ⟨v11, e11, r11⟩ := hd_ 11 rfl
        obtain rfl : (.bool false : Value) = v11 := Eq.symm r11
        refine W.step [(37, _), (28, _)] (Sub.cons (e20 _ rfl) (Sub.cons (e11 _ rfl) (Sub.refl _))) ?_
        refine W.wants rfl rfl rfl rfl ?_
        refine W.fieldAddr (off := 32) (size := 1) (t := 51) (Fld.of (by kernel_rfl)) rfl rfl rfl ?_
        refine W.nil ?_
        exact At.step (Ext.refl _) ⟨ad20.add 32, v20, rfl, hc20 32 v20 (by rw [List.getElem?_append_right (by simp [hk20]), List.length_map, hk20]; rfl), hR20⟩
      refine And.intro ?_ ?_
      · intro L_ wr hX_ hs_ hf_ hd_
        obtain ⟨v21, e21, r21⟩ := hd_ 21 rfl
        obtain ⟨ad21, v21, rfl, hc21, hR21⟩ := r21
        obtain ⟨v11, e11, r11⟩ := hd_ 11 rfl
        obtain rfl : (.bool false : Value) = v11 := Eq.symm r11
        refine W.step [(38, _), (28, _)] (Sub.cons (e21 _ rfl) (Sub.cons (e11 _ rfl) (Sub.refl _))) ?_
        refine W.wants rfl rfl rfl rfl ?_
        refine W.load rfl Try.underlying51 rfl hc21 rfl ?_
        refine W.nil ?_
        exact At.step (Ext.refl _) hR21
      refine And.intro ?_ ?_
      · intro L_ wr hX_ hs_ hf_ hd_
        obtain ⟨v22, e22, r22⟩ := hd_ 22 rfl
        obtain ⟨a22, c22, rfl, hs22, _⟩ := RByt.form r22
        obtain ⟨v11, e11, r11⟩ := hd_ 11 rfl
        obtain rfl : (.bool false : Value) = v11 := Eq.symm r11
        refine W.step [(39, _), (28, _)] (Sub.cons (e22 _ rfl) (Sub.cons (e11 _ rfl) (Sub.refl _))) ?_
        refine W.wants rfl rfl rfl rfl ?_
        refine W.bytesStr Try.underlying51 Try.underlying5 Try.underlying9 rfl hs22 rfl ?_
        refine W.nil ?_
        exact At.step (Ext.refl _) rfl
      refine And.intro ?_ ?_
      · intro L_ wr hX_ hs_ hf_ hd_
        obtain ⟨v17, e17, r17⟩ := hd_ 17 rfl
        obtain rfl : (strV xs[i].2 : Value) = v17 := Eq.symm r17
        obtain ⟨v23, e23, r23⟩ := hd_ 23 rfl
        obtain rfl : (strV xs[i].2 : Value) = v23 := Eq.symm r23
        obtain ⟨v11, e11, r11⟩ := hd_ 11 rfl
        obtain rfl : (.bool false : Value) = v11 := Eq.symm r11
        refine W.step [(34, _), (40, _), (28, _)] (Sub.cons (e17 _ rfl) (Sub.cons (e23 _ rfl) (Sub.cons (e11 _ rfl) (Sub.refl _)))) ?_
        refine W.wants rfl rfl rfl rfl ?_
        refine W.neqStr rfl rfl rfl ?_
        refine W.eqv (bF (fun h => h rfl)) ?_
        refine W.nil ?_
        exact At.step (Ext.refl _) rfl
      refine And.intro ?_ ?_
      · intro L_ wr hX_ hs_ hf_ hd_
        obtain ⟨v11, e11, r11⟩ := hd_ 11 rfl
        obtain rfl : (.bool false : Value) = v11 := Eq.symm r11
        obtain ⟨v24, e24, r24⟩ := hd_ 24 rfl
        obtain rfl : (.bool false : Value) = v24 := Eq.symm r24
        refine W.step [(28, _), (41, _)] (Sub.cons (e11 _ rfl) (Sub.cons (e24 _ rfl) (Sub.refl _))) ?_
        refine W.pickF rfl rfl rfl ?_
        refine W.nil ?_
        exact At.step (Ext.refl _) rfl
      exact trivial
    · intro L_ wr hX6 hs_ hv_
      obtain ⟨v25, e25, r25⟩ := hv_ 25 (by decide)
      obtain rfl : (.bool false : Value) = v25 := Eq.symm r25
      refine W.weaken (l' := [(42, _), (0, _), (1, _), (5, _)]) (Sub.cons (e25 _ rfl) (Sub.cons (hs_ _ _ rfl) (Sub.cons (hs_ _ _ rfl) (Sub.cons (hs_ _ _ rfl) (Sub.nil))))) ?_
      refine W.nil ?_
      refine At.thenCode ?_
      refine C.condF rfl ?_
      refine C.skip ?_
      refine At.blockNormal ?_
      refine At.thenCode ?_
      refine C.region ?_
      refine W.move rfl rfl ?_
      first | refine W.addI rfl rfl (by omega) rfl ?_ | refine W.addW rfl rfl rfl ?_
      refine W.assign rfl rfl ?_
      refine W.nil ?_
      refine At.thenRound (i + 1) (Sub.cons (rfl) (Sub.cons (rfl) (Sub.cons (look_eq rfl (iV (by omega))) (Sub.nil)))) (show (i + 1) ≤ xs.length ∧ Ext w _ from ?_) (show xs.length - (i + 1) < xs.length - i from ?_)
      · exact ⟨by omega, hXl.ext hX6⟩
      · omega
  · refine C.exit ?_
    refine At.thenExit ?_
    refine At.thenExit ?_
    refine At.blockSelf ?_
    refine At.thenCode ?_
    refine C.seq ?_
    refine C.region ?_
    refine W.assign rfl rfl ?_
    refine W.nil ?_
    refine At.thenCode ?_
    refine C.ret ?_
    refine At.ret1 Try.results19 rfl ?_
    exact ⟨rfl, hXl⟩
end Go.Proofs.Ythiijdbiikljpaa.Cod
