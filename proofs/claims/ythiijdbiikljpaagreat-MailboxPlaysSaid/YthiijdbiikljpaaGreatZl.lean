/- The reference's comparisons: of what is the same they tell so. The reference's functions that write: rows of entries. The reference's functions that write: batches. -/
import Derived.Test.YthiijdbiikljpaaGreatZi
import Derived.Test.YthiijdbiikljpaaGreatZk
namespace Go.Proofs.YthiijdbiikljpaaGreat.Cod
open Go Go.RowKit Go.Proofs.YthiijdbiikljpaaGreat.KW Go.Proofs.YthiijdbiikljpaaGreat.Words Go.Proofs.YthiijdbiikljpaaGreat.Grp
set_option linter.unusedVariables false
set_option linter.unusedSimpArgs false
set_option maxRecDepth 100000
abbrev NoA : Nat → Prop := fun _ => False
theorem SameLetters_ok (a1 : Option Addr) (c1 : Nat) (a2 : Option Addr) (c2 : Nat) (xs : List Let) (w : World) (h1 : Els NoA w 33 RLet a1 c1 xs) (h2 : Els NoA w 33 RLet a2 c2 xs) (hl : xs.length ≤ 9000000000000000000) :
   Ct Tryz.prog 52 #[.slice a1 xs.length c1, .slice a2 xs.length c2] w (fun v w' => v = .bool true ∧ Ext w w') := by
 refine Ct.enter [(0, .slice a1 xs.length c1), (1, .slice a2 xs.length c2)] Tryz.func52 rfl rfl rfl rfl ?_
 refine C.seq (C.region (W.assign rfl rfl (W.nil (At.thenCode (C.seq (C.seq (C.region (W.move rfl rfl (W.lenS rfl Tryz.underlying37 rfl (W.move rfl rfl (W.lenS rfl Tryz.underlying37 rfl ?_)))))))))))
 refine W.neqI rfl rfl rfl ?_
 refine W.eqv (bF (fun h => h rfl)) ?_
 refine W.nil (At.thenCode ?_)
 refine C.condF rfl ?_
 refine C.skip (At.thenCode (C.seq (C.seq (C.region (W.assign rfl rfl (W.nil (At.thenCode (C.block ?_))))))))
 refine C.loop (X := Nat) (fun x_ => [(0, .slice a1 xs.length c1), (1, .slice a2 xs.length c2), (5, .int .i64 (x_ : Int))]) (fun x_ wl => x_ ≤ xs.length ∧ Ext w wl) (fun x_ => xs.length - x_) (0) (sc rfl (sc rfl (sc rfl (Sub.nil)))) ?start1 ?_
 case start1 =>
   show (0) ≤ xs.length ∧ Ext w _
   exact ⟨by omega, Ext.refl _⟩
 rintro i wl hI_
 replace hI_ : i ≤ xs.length ∧ Ext w wl := hI_
 obtain ⟨hi, hXl⟩ := hI_
 refine C.weaken (l' := [(0, .slice a1 xs.length c1), (1, .slice a2 xs.length c2), (5, .int .i64 (i : Int))]) (sc rfl (sc rfl (sc rfl (Sub.nil)))) ?_
 refine C.seq (C.seq (C.region (W.move rfl rfl (W.move rfl rfl (W.lenS rfl Tryz.underlying37 rfl (W.lssI rfl rfl rfl (W.nil (At.thenCode ?_))))))))
 refine C.condD rfl (fun c14 => ?_) (fun c14 => ?_)
 have hlt : i < xs.length := by omega
 refine C.skip (At.thenCode (C.seq (C.block (C.seq ?_))))
 refine C.regionAny 26 (E_ (.slice a1 xs.length c1) :: E_ (.int .i64 (i : Int)) :: (fun v w => ∃ ad, v = .pointer (some ad) ∧ ∃ v1, Cells w ad (xs[i].1.map byteV ++ [v1]) ∧ RByt NoA w [v1] xs[i].2 ∧ xs[i].1.length = 32) :: (fun v w => ∃ ad, v = .pointer (some ad) ∧ Cells w ad (xs[i].1.map byteV) ∧ xs[i].1.length = 32) :: E_ (.agg (xs[i].1.map byteV).toArray) :: E_ (.slice a2 xs.length c2) :: E_ (.int .i64 (i : Int)) :: (fun v w => ∃ ad, v = .pointer (some ad) ∧ ∃ v1, Cells w ad (xs[i].1.map byteV ++ [v1]) ∧ RByt NoA w [v1] xs[i].2 ∧ xs[i].1.length = 32) :: (fun v w => ∃ ad, v = .pointer (some ad) ∧ Cells w ad (xs[i].1.map byteV) ∧ xs[i].1.length = 32) :: E_ (.agg (xs[i].1.map byteV).toArray) :: E_ (.bool false) :: E_ (.bool false) :: E_ (.slice a1 xs.length c1) :: E_ (.int .i64 (i : Int)) :: (fun v w => ∃ ad, v = .pointer (some ad) ∧ ∃ v1, Cells w ad (xs[i].1.map byteV ++ [v1]) ∧ RByt NoA w [v1] xs[i].2 ∧ xs[i].1.length = 32) :: (fun v w => ∃ ad v1, v = .pointer (some ad) ∧ w.cell? ad = some v1 ∧ RByt NoA w [v1] xs[i].2) :: (fun v w => RByt NoA w [v] xs[i].2) :: E_ (strV xs[i].2) :: E_ (.slice a2 xs.length c2) :: E_ (.int .i64 (i : Int)) :: (fun v w => ∃ ad, v = .pointer (some ad) ∧ ∃ v1, Cells w ad (xs[i].1.map byteV ++ [v1]) ∧ RByt NoA w [v1] xs[i].2 ∧ xs[i].1.length = 32) :: (fun v w => ∃ ad v1, v = .pointer (some ad) ∧ w.cell? ad = some v1 ∧ RByt NoA w [v1] xs[i].2) :: (fun v w => RByt NoA w [v] xs[i].2) :: E_ (strV xs[i].2) :: E_ (.bool false) :: E_ (.bool false) :: []) [(0, .slice a1 xs.length c1), (1, .slice a2 xs.length c2), (5, .int .i64 (i : Int))] [] (sc rfl (sc rfl (sc rfl (Sub.nil)))) (Sub.nil) (sc rfl (sc rfl (sc rfl (Sub.nil)))) (by kernel_rfl) rfl rfl rfl (sN (sN (sM (fun _ _ _ h g => by obtain ⟨ad, e, v1, h1, h2, h3⟩ := h; exact ⟨ad, e, v1, h1.chg g (fun c => c), RdOk.ext rByt h2 g, h3⟩) (sM (fun _ _ _ h g => by obtain ⟨ad, e, h1, h3⟩ := h; exact ⟨ad, e, h1.chg g (fun c => c), h3⟩) (sN (sN (sN (sM (fun _ _ _ h g => by obtain ⟨ad, e, v1, h1, h2, h3⟩ := h; exact ⟨ad, e, v1, h1.chg g (fun c => c), RdOk.ext rByt h2 g, h3⟩) (sM (fun _ _ _ h g => by obtain ⟨ad, e, h1, h3⟩ := h; exact ⟨ad, e, h1.chg g (fun c => c), h3⟩) (sN (sN (sN (sN (sN (sM (fun _ _ _ h g => by obtain ⟨ad, e, v1, h1, h2, h3⟩ := h; exact ⟨ad, e, v1, h1.chg g (fun c => c), RdOk.ext rByt h2 g, h3⟩) (sM (fun _ _ _ h g => by obtain ⟨ad, v1, e, h1, h2⟩ := h; exact ⟨ad, v1, e, Chg.cell g h1 fun c => c, RdOk.ext rByt h2 g⟩) (sM (fun _ _ _ h g => RdOk.ext rByt h g) (sN (sN (sN (sM (fun _ _ _ h g => by obtain ⟨ad, e, v1, h1, h2, h3⟩ := h; exact ⟨ad, e, v1, h1.chg g (fun c => c), RdOk.ext rByt h2 g, h3⟩) (sM (fun _ _ _ h g => by obtain ⟨ad, v1, e, h1, h2⟩ := h; exact ⟨ad, v1, e, Chg.cell g h1 fun c => c, RdOk.ext rByt h2 g⟩) (sM (fun _ _ _ h g => RdOk.ext rByt h g) (sN (sN (sN (trivial))))))))))))))))))))))))))) ?_ ?_
 refine And.intro (mB rfl rfl (fun _ => rfl) rfl) ?_
 refine And.intro (mB rfl rfl (fun _ => rfl) rfl) ?_
 refine And.intro ?_ ?_
 intro L_ wr hX_ hs_ hf_ hd_
 obtain ⟨_, e0, rfl⟩ := hd_ 0 rfl
 obtain ⟨_, e1, rfl⟩ := hd_ 1 rfl
 refine W.s2 (e0 _ rfl) (e1 _ rfl) ?_
 refine W.indexE ELet Tryz.underlying37 rfl ((h1.ext rLet hXl).ext rLet hX_) rfl hlt rfl ?_
 rintro ad19 cs19 hc19 ⟨v19, rfl, hR19, hx19⟩ _
 exact W.e0 ⟨ad19, rfl, v19, hc19, hR19, hx19⟩
 refine And.intro ?_ ?_
 intro L_ wr hX_ hs_ hf_ hd_
 obtain ⟨v2, e2, r2⟩ := hd_ 2 rfl
 obtain ⟨ad2, rfl, v2, hc2, hR2, hk2⟩ := r2
 refine W.s1 (e2 _ rfl) ?_
 refine W.fieldAddr (off := 0) (size := 32) (t := 43) (Fld.of (by kernel_rfl)) rfl rfl rfl ?_
 exact W.e0 ⟨ad2.add 0, rfl, by rw [add_zero']; have := hc2.take 32; rwa [List.take_append_of_le_length (by simp [hk2]), List.take_of_length_le (by simp [hk2])] at this, hk2⟩
 refine And.intro ?_ ?_
 intro L_ wr hX_ hs_ hf_ hd_
 obtain ⟨v3, e3, r3⟩ := hd_ 3 rfl
 obtain ⟨ad3, rfl, hc3, hk3⟩ := r3
 refine W.s1 (e3 _ rfl) ?_
 refine W.loadA rfl hc3 Tryz.underlying43 rfl (by rw [List.length_map, hk3]; kernel_rfl) rfl ?_
 exact W.e0 rfl
 refine And.intro (mB rfl rfl (fun _ => rfl) rfl) ?_
 refine And.intro (mB rfl rfl (fun _ => rfl) rfl) ?_
 refine And.intro ?_ ?_
 intro L_ wr hX_ hs_ hf_ hd_
 obtain ⟨_, e5, rfl⟩ := hd_ 5 rfl
 obtain ⟨_, e6, rfl⟩ := hd_ 6 rfl
 refine W.s2 (e5 _ rfl) (e6 _ rfl) ?_
 refine W.indexE ELet Tryz.underlying37 rfl ((h2.ext rLet hXl).ext rLet hX_) rfl hlt rfl ?_
 rintro ad24 cs24 hc24 ⟨v24, rfl, hR24, hx24⟩ _
 exact W.e0 ⟨ad24, rfl, v24, hc24, hR24, hx24⟩
 refine And.intro ?_ ?_
 intro L_ wr hX_ hs_ hf_ hd_
 obtain ⟨v7, e7, r7⟩ := hd_ 7 rfl
 obtain ⟨ad7, rfl, v7, hc7, hR7, hk7⟩ := r7
 refine W.s1 (e7 _ rfl) ?_
 refine W.fieldAddr (off := 0) (size := 32) (t := 43) (Fld.of (by kernel_rfl)) rfl rfl rfl ?_
 exact W.e0 ⟨ad7.add 0, rfl, by rw [add_zero']; have := hc7.take 32; rwa [List.take_append_of_le_length (by simp [hk7]), List.take_of_length_le (by simp [hk7])] at this, hk7⟩
 refine And.intro ?_ ?_
 intro L_ wr hX_ hs_ hf_ hd_
 obtain ⟨v8, e8, r8⟩ := hd_ 8 rfl
 obtain ⟨ad8, rfl, hc8, hk8⟩ := r8
 refine W.s1 (e8 _ rfl) ?_
 refine W.loadA rfl hc8 Tryz.underlying43 rfl (by rw [List.length_map, hk8]; kernel_rfl) rfl ?_
 exact W.e0 rfl
 refine And.intro ?_ ?_
 intro L_ wr hX_ hs_ hf_ hd_
 obtain ⟨_, e4, rfl⟩ := hd_ 4 rfl
 obtain ⟨_, e9, rfl⟩ := hd_ 9 rfl
 refine W.s2 (e4 _ rfl) (e9 _ rfl) ?_
 have hk : xs[i].1.length = 32 := by obtain ⟨_, hh⟩ := Cod.Els.get h1 hlt; obtain ⟨_, _, _, hh⟩ := hh; exact hh
 refine W.neqKey (n := 32) Tryz.underlying43 Tryz.underlying5 (by kernel_rfl) rfl rfl hk hk (by kernel_rfl) rfl ?_
 refine W.eqv (bF (fun h => h rfl)) ?_
 exact W.e0 rfl
 refine And.intro ?_ ?_
 intro L_ wr hX_ hs_ hf_ hd_
 obtain ⟨_, e10, rfl⟩ := hd_ 10 rfl
 exact W.s1 (e10 _ rfl) (W.move rfl rfl (W.e0 rfl))
 refine And.intro ?_ ?_
 intro L_ wr hX_ hs_ hf_ hd_
 obtain ⟨_, e11, rfl⟩ := hd_ 11 rfl
 exact W.s2 (hs_ 0 _ rfl) (e11 _ rfl) (W.wants rfl rfl rfl rfl (W.move rfl rfl (W.e0 rfl)))
 refine And.intro ?_ ?_
 intro L_ wr hX_ hs_ hf_ hd_
 obtain ⟨_, e11, rfl⟩ := hd_ 11 rfl
 exact W.s2 (hs_ 5 _ rfl) (e11 _ rfl) (W.wants rfl rfl rfl rfl (W.move rfl rfl (W.e0 rfl)))
 refine And.intro ?_ ?_
 intro L_ wr hX_ hs_ hf_ hd_
 obtain ⟨_, e12, rfl⟩ := hd_ 12 rfl
 obtain ⟨_, e13, rfl⟩ := hd_ 13 rfl
 obtain ⟨_, e11, rfl⟩ := hd_ 11 rfl
 refine W.s3 (e12 _ rfl) (e13 _ rfl) (e11 _ rfl) (W.wants rfl rfl rfl rfl ?_)
 refine W.indexE ELet Tryz.underlying37 rfl ((h1.ext rLet hXl).ext rLet hX_) rfl hlt rfl ?_
 rintro ad31 cs31 hc31 ⟨v31, rfl, hR31, hx31⟩ _
 exact W.e0 ⟨ad31, rfl, v31, hc31, hR31, hx31⟩
 refine And.intro ?_ ?_
 intro L_ wr hX_ hs_ hf_ hd_
 obtain ⟨v14, e14, r14⟩ := hd_ 14 rfl
 obtain ⟨ad14, rfl, v14, hc14, hR14, hk14⟩ := r14
 obtain ⟨_, e11, rfl⟩ := hd_ 11 rfl
 refine W.s2 (e14 _ rfl) (e11 _ rfl) (W.wants rfl rfl rfl rfl ?_)
 refine W.fieldAddr (off := 32) (size := 1) (t := 22) (Fld.of (by kernel_rfl)) rfl rfl rfl ?_
 exact W.e0 ⟨ad14.add 32, v14, rfl, hc14 32 v14 (by rw [List.getElem?_append_right (by simp [hk14]), List.length_map, hk14]; rfl), hR14⟩
 refine And.intro ?_ ?_
 intro L_ wr hX_ hs_ hf_ hd_
 obtain ⟨v15, e15, r15⟩ := hd_ 15 rfl
 obtain ⟨ad15, v15, rfl, hc15, hR15⟩ := r15
 obtain ⟨_, e11, rfl⟩ := hd_ 11 rfl
 refine W.s2 (e15 _ rfl) (e11 _ rfl) (W.wants rfl rfl rfl rfl ?_)
 refine W.load rfl Tryz.underlying22 rfl hc15 rfl ?_
 exact W.e0 hR15
 refine And.intro ?_ ?_
 intro L_ wr hX_ hs_ hf_ hd_
 obtain ⟨v16, e16, r16⟩ := hd_ 16 rfl
 obtain ⟨a16, c16, rfl, hs16, _⟩ := RByt.form r16
 obtain ⟨_, e11, rfl⟩ := hd_ 11 rfl
 refine W.s2 (e16 _ rfl) (e11 _ rfl) (W.wants rfl rfl rfl rfl ?_)
 refine W.bytesStr Tryz.underlying22 Tryz.underlying5 Tryz.underlying9 rfl hs16 rfl ?_
 exact W.e0 rfl
 refine And.intro ?_ ?_
 intro L_ wr hX_ hs_ hf_ hd_
 obtain ⟨_, e11, rfl⟩ := hd_ 11 rfl
 exact W.s2 (hs_ 1 _ rfl) (e11 _ rfl) (W.wants rfl rfl rfl rfl (W.move rfl rfl (W.e0 rfl)))
 refine And.intro ?_ ?_
 intro L_ wr hX_ hs_ hf_ hd_
 obtain ⟨_, e11, rfl⟩ := hd_ 11 rfl
 exact W.s2 (hs_ 5 _ rfl) (e11 _ rfl) (W.wants rfl rfl rfl rfl (W.move rfl rfl (W.e0 rfl)))
 refine And.intro ?_ ?_
 intro L_ wr hX_ hs_ hf_ hd_
 obtain ⟨_, e18, rfl⟩ := hd_ 18 rfl
 obtain ⟨_, e19, rfl⟩ := hd_ 19 rfl
 obtain ⟨_, e11, rfl⟩ := hd_ 11 rfl
 refine W.s3 (e18 _ rfl) (e19 _ rfl) (e11 _ rfl) (W.wants rfl rfl rfl rfl ?_)
 refine W.indexE ELet Tryz.underlying37 rfl ((h2.ext rLet hXl).ext rLet hX_) rfl hlt rfl ?_
 rintro ad37 cs37 hc37 ⟨v37, rfl, hR37, hx37⟩ _
 exact W.e0 ⟨ad37, rfl, v37, hc37, hR37, hx37⟩
 refine And.intro ?_ ?_
 intro L_ wr hX_ hs_ hf_ hd_
 obtain ⟨v20, e20, r20⟩ := hd_ 20 rfl
 obtain ⟨ad20, rfl, v20, hc20, hR20, hk20⟩ := r20
 obtain ⟨_, e11, rfl⟩ := hd_ 11 rfl
 refine W.s2 (e20 _ rfl) (e11 _ rfl) (W.wants rfl rfl rfl rfl ?_)
 refine W.fieldAddr (off := 32) (size := 1) (t := 22) (Fld.of (by kernel_rfl)) rfl rfl rfl ?_
 exact W.e0 ⟨ad20.add 32, v20, rfl, hc20 32 v20 (by rw [List.getElem?_append_right (by simp [hk20]), List.length_map, hk20]; rfl), hR20⟩
 refine And.intro ?_ ?_
 intro L_ wr hX_ hs_ hf_ hd_
 obtain ⟨v21, e21, r21⟩ := hd_ 21 rfl
 obtain ⟨ad21, v21, rfl, hc21, hR21⟩ := r21
 obtain ⟨_, e11, rfl⟩ := hd_ 11 rfl
 refine W.s2 (e21 _ rfl) (e11 _ rfl) (W.wants rfl rfl rfl rfl ?_)
 refine W.load rfl Tryz.underlying22 rfl hc21 rfl ?_
 exact W.e0 hR21
 refine And.intro ?_ ?_
 intro L_ wr hX_ hs_ hf_ hd_
 obtain ⟨v22, e22, r22⟩ := hd_ 22 rfl
 obtain ⟨a22, c22, rfl, hs22, _⟩ := RByt.form r22
 obtain ⟨_, e11, rfl⟩ := hd_ 11 rfl
 refine W.s2 (e22 _ rfl) (e11 _ rfl) (W.wants rfl rfl rfl rfl ?_)
 refine W.bytesStr Tryz.underlying22 Tryz.underlying5 Tryz.underlying9 rfl hs22 rfl ?_
 exact W.e0 rfl
 refine And.intro ?_ ?_
 intro L_ wr hX_ hs_ hf_ hd_
 obtain ⟨_, e17, rfl⟩ := hd_ 17 rfl
 obtain ⟨_, e23, rfl⟩ := hd_ 23 rfl
 obtain ⟨_, e11, rfl⟩ := hd_ 11 rfl
 refine W.s3 (e17 _ rfl) (e23 _ rfl) (e11 _ rfl) (W.wants rfl rfl rfl rfl ?_)
 refine W.neqStr rfl rfl rfl ?_
 refine W.eqv (bF (fun h => h rfl)) ?_
 exact W.e0 rfl
 refine And.intro ?_ ?_
 intro L_ wr hX_ hs_ hf_ hd_
 obtain ⟨_, e11, rfl⟩ := hd_ 11 rfl
 obtain ⟨_, e24, rfl⟩ := hd_ 24 rfl
 exact W.s2 (e11 _ rfl) (e24 _ rfl) (W.pickF rfl rfl rfl (W.e0 rfl))
 exact trivial
 intro L_ wr hX6 hs_ hv_
 obtain ⟨_, e25, rfl⟩ := hv_ 25 (by decide)
 refine W.weaken (l' := [(42, _), (0, _), (1, _), (5, _)]) (sc (e25 _ rfl) (sc (hs_ _ _ rfl) (sc (hs_ _ _ rfl) (sc (hs_ _ _ rfl) (Sub.nil))))) ?_
 refine W.nil (At.thenCode ?_)
 refine C.condF rfl ?_
 refine C.skip (At.blockNormal (At.thenCode (C.region (W.move rfl rfl ?_))))
 refine W.addI rfl rfl (by omega) rfl ?_
 refine W.assign rfl rfl (W.nil ?_)
 refine At.thenRound (i + 1) (sc rfl (sc rfl (sc (look_eq rfl (iV (by omega))) (Sub.nil)))) (show (i + 1) ≤ xs.length ∧ Ext w _ from ?_) (show xs.length - (i + 1) < xs.length - i from ?_)
 exact ⟨by omega, hXl.ext hX6⟩
 omega
 refine C.exit (At.thenExit (At.thenExit (At.blockSelf (At.thenCode (C.seq (C.region (W.assign rfl rfl (W.nil (At.thenCode (C.ret ?_))))))))))
 refine At.ret1 Tryz.results52 rfl ?_
 exact ⟨rfl, hXl⟩
end Go.Proofs.YthiijdbiikljpaaGreat.Cod
namespace Go.Proofs.YthiijdbiikljpaaGreat.KW
open Go Go.RowKit
set_option linter.unusedSimpArgs false
section
variable {P : Program} {N : Nat} {Q : Exit → Act → World → Prop} {l : Env} {w : World} {ops : Array Oper} {rest : List Oper} {d : Tmp} {ty : TypeId} {pos : String} {aft : Array Edge} {x y : Operand}
theorem W.indexEA {α : Type} {R : RdT α} {A : Nat → Prop} {t e sz bytes c j : Nat} {z : Value} {ao : Option Addr} {xs : List α} {k : IntKind} (hE : Elem P e sz bytes z) (hT : P.underlying t = some (.slice e)) (hx : ev l x = some (.slice ao xs.length c)) (hs : Els A w sz R ao c xs) (hi : ev l y = some (.int k (j : Int))) (hj : j < xs.length) (hN : Nat.blt d N = true)
   (next : ∀ ad cs, Cells w ad cs → R A w cs (xs[j]'hj) → cs.length = sz → ¬ A ad.block → W P N ops Q rest ((d, .pointer (some ad)) :: l) w) :
   W P N ops Q (⟨some d, .indexAddr t x y, ty, pos, aft, none⟩ :: rest) l w := by
 obtain ⟨es, hsl, hn, hes⟩ := hs
 have h1 : (j + 1) * sz ≤ xs.length * sz := Nat.mul_le_mul_right _ hj
 rw [Nat.succ_mul] at h1
 have hpos := hE.pos
 refine W.indexS hE hT hx hsl hi (by omega) hN fun ad his had hc => next ad _ (hc.take sz) (hes j hj) ?_ ?_
 rw [List.length_take, List.length_drop, hsl.len]
 simp only [Int.toNat_natCast]
 omega
 obtain ⟨a, rfl⟩ := Option.isSome_iff_exists.1 his
 rw [had a rfl, add_block]
 exact hn a rfl fun e => by
   have := hsl.len
   rw [e, List.length_nil] at this
   omega
theorem W.sliceAG {t e n sz bytes : Nat} {z : Value} {ad : Addr} (hE : Elem P e sz bytes z) (hT : P.underlying t = some (.array n e)) (hx : ev l x = some (.pointer (some ad))) (hN : Nat.blt d N = true)
   (next : W P N ops Q rest ((d, .slice (some ad) n n) :: l) w) : W P N ops Q (⟨some d, .slice t x none none none, ty, pos, aft, none⟩ :: rest) l w := by
 obtain ⟨i, hi, hz', hsz, hby⟩ := hE.out
 refine W.op rfl rfl hN (fun a ha => ?_) next
 simp [execOp, ha.ev hx, Instr.sliceAt, run_underlying hT, Instr.sureAddr, Instr.sliceBounds, sizeOf, typeInfo, hi, hsz, add_zero']
end
theorem GP.all {n0 e sz mn : Nat} {S A : Nat → Prop} {P : List Value} {a b : World} (h : GP n0 e sz mn S P a b) (hS : ∀ k, S k → A k) (hn : ∀ k, n0 ≤ k → A k) : Chg A a b :=
 ⟨h.os, h.tape, h.output, h.size, fun k hk hA => h.block k hk (fun c => hA (hS k c)) fun c => absurd (hn k c) hA⟩
end Go.Proofs.YthiijdbiikljpaaGreat.KW
namespace Go.Proofs.YthiijdbiikljpaaGreat.Cod
open Go Go.RowKit Go.Proofs.YthiijdbiikljpaaGreat.KW Go.Proofs.YthiijdbiikljpaaGreat.Words Go.Proofs.YthiijdbiikljpaaGreat.Grp
set_option linter.unusedVariables false
set_option linter.unusedSimpArgs false
set_option maxRecDepth 100000
theorem sizeL_zero {es : List Let} (h : 0 < es.length) : (es[0]'h).2.length = sizeL es := by
 cases es with
 | nil => simp at h
 | cons p r => rfl
theorem Cells.bs {w : World} {ad : Addr} {xs : List UInt8} (h : Cells w ad (xs.map byteV)) : Bs w (some ad) xs.length xs :=
 ⟨Nat.le_refl _, by simp, (fun e => by cases e), fun a ea => by obtain rfl := Option.some.inj ea; exact h⟩
theorem RBatch_ok (x : BatD) (vi vl : Value) (w : World) (hI : RNums (fun _ => False) w [vi] x.inner) (hL : RSl 33 RLet (fun _ => False) w [vl] x.lets) (ho : BatOk x) (hlenI : x.inner.length ≤ 9223372036854775807) (hlen : x.lets.length ≤ 9223372036854775807) (hbox : ∀ p ∈ x.lets, p.2.length ≤ 9223372036854775807) :
   Ct Tryz.prog 41 #[.agg (batC x vi vl).toArray] w (fun v w' => ∃ ao' c', v = .tuple #[.slice ao' (batB x).length c', .int .i64 (batE x : Int)] ∧ NewB w w' ao' c' (batB x) ∧ Ext w w') := by
 refine Ct.enter [(0, .agg (batC x vi vl).toArray)] Tryz.func41 rfl rfl rfl rfl ?_
 obtain ⟨ao, c, rfl, hE⟩ := hL.form
 obtain ⟨aI, cI, rfl, hU, _, hUl⟩ := hI.form
 obtain ⟨A, hA⟩ : ∃ A : Nat → Prop, A = fun k => w.heap.size ≤ k := ⟨_, rfl⟩
 have hAi : ∀ k, w.heap.size ≤ k → A k := fun k h => by rw [hA]; exact h
 have hEb : Els A w 33 RLet ao c x.lets := hE.new rLet fun k h1 h2 => by rw [hA] at h1; exact absurd h2 (Nat.not_lt.2 h1)
 obtain ⟨hor, hoc, hoi, hol⟩ := ho
 refine C.seq (C.region ?_)
 refine W.box (batC x (.slice aI x.inner.length cI) (.slice ao x.lets.length c)) rfl rfl rfl ?_
 intro g1 wb hg1 hXb hB1
 have hE1 := hE.ext rLet hXb
 refine W.assign rfl rfl (W.assign rfl rfl (W.nil (At.thenCode (C.seq (C.seq (C.region (W.fieldB (off := 2) (size := 1) (t := 36) (Fld.of (by kernel_rfl)) rfl rfl rfl ?_)))))))
 refine W.loadB rfl Tryz.underlying36 rfl (by assumption) rfl rfl ?_
 refine W.lenS rfl Tryz.underlying36 rfl (W.gtrI rfl rfl rfl (W.move rfl rfl ?_))
 refine W.splitD (fun g13 => ?_) (fun g13 => ?_)
 refine W.skips rfl rfl rfl rfl rfl rfl (W.skips rfl rfl rfl rfl rfl rfl (W.skips rfl rfl rfl rfl rfl rfl (W.skips rfl rfl rfl rfl rfl rfl (W.pickT rfl rfl rfl (W.nil (At.thenCode ?_))))))
 refine C.condT rfl ?_
 -- known too
 have hEE : batE x = 3 := by unfold batE; rw [if_pos (by first | exact Or.inl (by omega) | exact Or.inr (Or.inl (by omega)))]
 have hEB : batB x = [] := by unfold batB; rw [hEE]; rfl
 refine C.seq (C.region (W.assign rfl rfl (W.assign rfl rfl (W.nil (At.thenCode (C.ret (At.thenRet ?_)))))))
 refine At.ret2 Tryz.results41 rfl rfl ?_
 first
 | exact ⟨none, 0, by rw [hEB, hEE]; rfl, by rw [hEB]; exact NewB.nil _ _, hXb⟩
 | exact ⟨none, 0, by rw [hEB, hEE]; rfl, by rw [hEB]; exact NewB.nil _ _, hXbl⟩
 | exact ⟨aR, cR, by rw [hEE]; rfl, ⟨hSR, fun ad ea _ => Nat.le_trans hwb (hbR ad ea)⟩, hXbl⟩
 refine W.wants rfl rfl rfl rfl (W.fieldB (off := 3) (size := 1) (t := 37) (Fld.of (by kernel_rfl)) rfl rfl rfl (W.wants rfl rfl rfl rfl ?_))
 refine W.loadB rfl Tryz.underlying37 rfl (by assumption) rfl rfl ?_
 refine W.wants rfl rfl rfl rfl (W.lenS rfl Tryz.underlying37 rfl (W.wants rfl rfl rfl rfl (W.gtrI rfl rfl rfl (W.pickF rfl rfl rfl (W.nil (At.thenCode ?_))))))
 refine C.condD rfl (fun c18 => ?_) (fun c18 => ?_)
 -- known too
 have hEE : batE x = 3 := by unfold batE; rw [if_pos (by first | exact Or.inl (by omega) | exact Or.inr (Or.inl (by omega)))]
 have hEB : batB x = [] := by unfold batB; rw [hEE]; rfl
 refine C.seq (C.region (W.assign rfl rfl (W.assign rfl rfl (W.nil (At.thenCode (C.ret (At.thenRet ?_)))))))
 refine At.ret2 Tryz.results41 rfl rfl ?_
 first
 | exact ⟨none, 0, by rw [hEB, hEE]; rfl, by rw [hEB]; exact NewB.nil _ _, hXb⟩
 | exact ⟨none, 0, by rw [hEB, hEE]; rfl, by rw [hEB]; exact NewB.nil _ _, hXbl⟩
 | exact ⟨aR, cR, by rw [hEE]; rfl, ⟨hSR, fun ad ea _ => Nat.le_trans hwb (hbR ad ea)⟩, hXbl⟩
 have hin20 : x.inner.length ≤ 20 := by omega
 have hn1000 : x.lets.length ≤ 1000 := by omega
 refine C.skip (At.thenCode (C.seq (C.region (W.assign rfl rfl (W.nil (At.thenCode (C.seq (C.seq (C.region (W.assign rfl rfl (W.nil ?_)))))))))))
 refine At.thenCode (C.block ?_)
 refine C.loop (X := Nat × Nat) (fun x_ => [(1, .pointer (some ⟨g1, 0, none⟩)), (4, .int .i64 (x_.2 : Int)), (5, .int .i64 (x_.1 : Int))]) (fun x_ w1 => wb = w1 ∧ x_.1 ≤ x.lets.length ∧ (x_.1 = 0 → x_.2 = 0) ∧ (0 < x_.1 → x_.2 = sizeL x.lets) ∧ ∀ p ∈ x.lets.take x_.1, p.2.length ≤ 1048576) (fun x_ => x.lets.length - x_.1) (0, 0) (sc rfl (sc rfl (sc rfl (Sub.nil)))) ?start1 ?_
 case start1 =>
   show wb = _ ∧ (0) ≤ x.lets.length ∧ ((0) = 0 → (0) = 0) ∧ (0 < (0) → (0) = sizeL x.lets) ∧ ∀ p ∈ x.lets.take (0), p.2.length ≤ 1048576
   exact ⟨rfl, by omega, fun _ => rfl, fun h => by omega, by simp⟩
 rintro ⟨i, k⟩ w1 hI_
 replace hI_ : wb = w1 ∧ i ≤ x.lets.length ∧ (i = 0 → k = 0) ∧ (0 < i → k = sizeL x.lets) ∧ ∀ p ∈ x.lets.take i, p.2.length ≤ 1048576 := hI_
 obtain ⟨rfl, hi, hk0, hk1, hsm⟩ := hI_
 refine C.weaken (l' := [(1, .pointer (some ⟨g1, 0, none⟩)), (4, .int .i64 (k : Int)), (5, .int .i64 (i : Int))]) (sc rfl (sc rfl (sc rfl (Sub.nil)))) ?_
 refine C.seq (C.seq (C.region (W.move rfl rfl (W.fieldB (off := 3) (size := 1) (t := 37) (Fld.of (by kernel_rfl)) rfl rfl rfl ?_))))
 refine W.loadB rfl Tryz.underlying37 rfl (by assumption) rfl rfl ?_
 refine W.lenS rfl Tryz.underlying37 rfl (W.lssI rfl rfl rfl (W.nil (At.thenCode ?_)))
 refine C.condD rfl (fun c23 => ?_) (fun c23 => ?_)
 have hlt : i < x.lets.length := by omega
 have hmem : x.lets[i] ∈ x.lets := List.getElem_mem hlt
 refine C.skip (At.thenCode (C.seq (C.block (C.seq (C.seq (C.region (W.fieldB (off := 3) (size := 1) (t := 37) (Fld.of (by kernel_rfl)) rfl rfl rfl ?_)))))))
 refine W.loadB rfl Tryz.underlying37 rfl (by assumption) rfl rfl ?_
 refine W.move rfl rfl ?_
 refine W.indexE ELet Tryz.underlying37 rfl hE1 rfl hlt rfl ?_
 rintro ad29 cs29 hc29 ⟨v29, rfl, hR29, hx29⟩ _
 obtain ⟨a29, c29, rfl, hs29, _⟩ := hR29.form
 refine W.fieldAddr (off := 32) (size := 1) (t := 22) (Fld.of (by kernel_rfl)) rfl rfl rfl ?_
 refine W.loadC (v := .slice a29 x.lets[i].2.length c29) hc29 (by rw [List.getElem?_append_right (by rw [List.length_map]; omega), List.length_map, hx29]; rfl) rfl Tryz.underlying22 rfl rfl ?_
 refine W.lenS rfl Tryz.underlying22 rfl (W.gtrI rfl rfl rfl (W.nil (At.thenCode ?_)))
 refine C.condD rfl (fun c33 => ?_) (fun c33 => ?_)
 have hEE : batE x = 3 := by unfold batE; rw [if_pos (Or.inr (Or.inr ⟨x.lets[i], hmem, by omega⟩))]
 have hEB : batB x = [] := by unfold batB; rw [hEE]; rfl
 refine C.seq (C.region (W.assign rfl rfl (W.assign rfl rfl (W.nil (At.thenCode (C.ret (At.thenRet (At.blockRet (At.thenRet (At.thenRet (At.blockRet ?_)))))))))))
 refine At.thenRet ?_
 refine At.ret2 Tryz.results41 rfl rfl ?_
 first
 | exact ⟨none, 0, by rw [hEB, hEE]; rfl, by rw [hEB]; exact NewB.nil _ _, hXb⟩
 | exact ⟨none, 0, by rw [hEB, hEE]; rfl, by rw [hEB]; exact NewB.nil _ _, hXbl⟩
 | exact ⟨aR, cR, by rw [hEE]; rfl, ⟨hSR, fun ad ea _ => Nat.le_trans hwb (hbR ad ea)⟩, hXbl⟩
 refine C.skip (At.thenCode (C.region (W.fieldB (off := 3) (size := 1) (t := 37) (Fld.of (by kernel_rfl)) rfl rfl rfl ?_)))
 refine W.loadB rfl Tryz.underlying37 rfl (by assumption) rfl rfl ?_
 refine W.indexE (j := 0) ELet Tryz.underlying37 rfl hE1 rfl (by omega) rfl ?_
 rintro ad36 cs36 hc36 ⟨v36, rfl, hR36, hx36⟩ _
 obtain ⟨a36, c36, rfl, hs36, _⟩ := hR36.form
 have hz36 := sizeL_zero (es := x.lets) (by omega)
 refine W.fieldAddr (off := 32) (size := 1) (t := 22) (Fld.of (by kernel_rfl)) rfl rfl rfl ?_
 refine W.loadC (v := .slice a36 x.lets[0].2.length c36) hc36 (by rw [List.getElem?_append_right (by rw [List.length_map]; omega), List.length_map, hx36]; rfl) rfl Tryz.underlying22 rfl rfl ?_
 refine W.lenS rfl Tryz.underlying22 rfl ?_
 rw [hz36]
 refine W.assign rfl rfl (W.nil (At.blockNormal (At.thenCode (C.region (W.move rfl rfl ?_)))))
 refine W.addI rfl rfl (by omega) rfl ?_
 refine W.assign rfl rfl (W.nil ?_)
 refine At.thenRound (i + 1, sizeL x.lets) (sc rfl (sc rfl (sc (look_eq rfl (iV (by omega))) (Sub.nil)))) (show wb = _ ∧ (i + 1) ≤ x.lets.length ∧ ((i + 1) = 0 → (sizeL x.lets) = 0) ∧ (0 < (i + 1) → (sizeL x.lets) = sizeL x.lets) ∧ ∀ p ∈ x.lets.take (i + 1), p.2.length ≤ 1048576 from ?_) (show x.lets.length - (i + 1) < x.lets.length - i from ?_)
 refine ⟨rfl, by omega, fun h => by omega, fun _ => rfl, ?_⟩
 intro p hp
 rw [List.take_succ_eq_append_getElem hlt] at hp
 rcases List.mem_append.1 hp with h | h
 exact hsm p h
 obtain rfl := List.mem_singleton.1 h
 omega
 omega
 obtain rfl : i = x.lets.length := by omega
 rw [List.take_length] at hsm
 have hkz : k = sizeL x.lets := by
   rcases Nat.eq_zero_or_pos x.lets.length with h | h
   rw [hk0 h]; cases hq : x.lets with
   | nil => rfl
   | cons p r => rw [hq] at h; simp at h
   exact hk1 h
 subst hkz
 have hshort : ¬ (20 < x.inner.length ∨ 1000 < x.lets.length ∨ longL x.lets) := by
   rintro (h | h | ⟨p, hp, h⟩)
   omega
   omega
   have := hsm p hp; omega
 have hsz20 : sizeL x.lets ≤ 1048576 := by
   cases hq : x.lets with
   | nil => exact Nat.zero_le _
   | cons p r => exact hsm p (by rw [hq]; simp)
 refine C.exit (At.thenExit (At.thenExit (At.blockSelf (At.thenCode (C.seq (C.seq (C.region (W.fieldB (off := 0) (size := 1) (t := 3) (Fld.of (by kernel_rfl)) rfl rfl rfl ?_))))))))
 refine W.loadB rfl Tryz.underlying3 rfl (by assumption) rfl rfl ?_
 refine W.lssI rfl rfl rfl (W.move rfl rfl ?_)
 refine W.splitD (fun g43 => ?_) (fun g43 => ?_)
 refine W.skips rfl rfl rfl rfl rfl rfl (W.skips rfl rfl rfl rfl rfl rfl (W.skips rfl rfl rfl rfl rfl rfl (W.pickT rfl rfl rfl (W.nil (At.thenCode ?_)))))
 refine C.condT rfl ?_
 -- known too
 have hEE : batE x = 1 := by unfold batE; rw [if_neg hshort, if_pos (by first | exact Or.inl (by omega) | exact Or.inr (Or.inl (by omega)))]
 have hEB : batB x = [] := by unfold batB; rw [hEE]; rfl
 refine C.seq (C.region (W.assign rfl rfl (W.assign rfl rfl (W.nil (At.thenCode (C.ret (At.thenRet ?_)))))))
 refine At.ret2 Tryz.results41 rfl rfl ?_
 first
 | exact ⟨none, 0, by rw [hEB, hEE]; rfl, by rw [hEB]; exact NewB.nil _ _, hXb⟩
 | exact ⟨none, 0, by rw [hEB, hEE]; rfl, by rw [hEB]; exact NewB.nil _ _, hXbl⟩
 | exact ⟨aR, cR, by rw [hEE]; rfl, ⟨hSR, fun ad ea _ => Nat.le_trans hwb (hbR ad ea)⟩, hXbl⟩
 refine W.wants rfl rfl rfl rfl (W.fieldB (off := 1) (size := 1) (t := 3) (Fld.of (by kernel_rfl)) rfl rfl rfl (W.wants rfl rfl rfl rfl ?_))
 refine W.loadB rfl Tryz.underlying3 rfl (by assumption) rfl rfl ?_
 refine W.wants rfl rfl rfl rfl (W.lssI rfl rfl rfl (W.pickF rfl rfl rfl (W.nil (At.thenCode ?_))))
 refine C.condD rfl (fun c47 => ?_) (fun c47 => ?_)
 -- known too
 have hEE : batE x = 1 := by unfold batE; rw [if_neg hshort, if_pos (by first | exact Or.inl (by omega) | exact Or.inr (Or.inl (by omega)))]
 have hEB : batB x = [] := by unfold batB; rw [hEE]; rfl
 refine C.seq (C.region (W.assign rfl rfl (W.assign rfl rfl (W.nil (At.thenCode (C.ret (At.thenRet ?_)))))))
 refine At.ret2 Tryz.results41 rfl rfl ?_
 first
 | exact ⟨none, 0, by rw [hEB, hEE]; rfl, by rw [hEB]; exact NewB.nil _ _, hXb⟩
 | exact ⟨none, 0, by rw [hEB, hEE]; rfl, by rw [hEB]; exact NewB.nil _ _, hXbl⟩
 | exact ⟨aR, cR, by rw [hEE]; rfl, ⟨hSR, fun ad ea _ => Nat.le_trans hwb (hbR ad ea)⟩, hXbl⟩
 have hr0 : 0 ≤ x.round := by omega
 have hc0 : 0 ≤ x.chain := by omega
 refine C.skip (At.thenCode (C.seq ?_))
 refine C.regionAny 12 (E_ (.pointer (some ⟨g1, 0, none⟩)) :: E_ (.int .i64 x.round) :: E_ (.int .u64 (x.round.toNat : Int)) :: (fun v w => Rep w v (be64 x.round.toNat)) :: E_ (.pointer (some ⟨g1, 1, none⟩)) :: E_ (.int .i64 x.chain) :: E_ (.int .u64 (x.chain.toNat : Int)) :: (fun v w => Rep w v (be64 x.round.toNat ++ be64 x.chain.toNat)) :: E_ (.pointer (some ⟨g1, 2, none⟩)) :: E_ (.slice aI x.inner.length cI) :: E_ (.int .i64 (x.inner.length : Int)) :: E_ (.int .u64 (x.inner.length : Int)) :: []) [(1, .pointer (some ⟨g1, 0, none⟩)), (4, .int .i64 (sizeL x.lets : Int))] [] (sc rfl (sc rfl (Sub.nil))) (Sub.nil) (sc rfl (sc rfl (Sub.nil))) (by kernel_rfl) rfl rfl rfl (sN (sN (sN (sM (fun _ _ _ h g => Rep.stay h g) (sN (sN (sN (sM (fun _ _ _ h g => Rep.stay h g) (sN (sN (sN (sN (trivial))))))))))))) ?_ ?_
 refine And.intro ?_ ?_
 intro L_ wr hX_ hs_ hf_ hd_
 exact W.s1 (hs_ 1 _ rfl) (W.fieldB (off := 0) (size := 1) (t := 3) (Fld.of (by kernel_rfl)) rfl rfl rfl (W.e0 rfl))
 refine And.intro ?_ ?_
 intro L_ wr hX_ hs_ hf_ hd_
 obtain ⟨_, e0, rfl⟩ := hd_ 0 rfl
 refine W.s1 (e0 _ rfl) ?_
 refine W.loadB rfl Tryz.underlying3 rfl (Bk.ext (by assumption) hX_) rfl rfl ?_
 exact W.e0 rfl
 refine And.intro ?_ ?_
 intro L_ wr hX_ hs_ hf_ hd_
 obtain ⟨_, e1, rfl⟩ := hd_ 1 rfl
 refine W.s1 (e1 _ rfl) ?_
 refine W.convIN (M := 18446744073709551616) rfl Tryz.underlying3 Tryz.underlying83 rfl rfl (by omega) rfl ?_
 refine W.eqv (v' := u64V x.round.toNat) (iV (by omega)) ?_
 exact W.e0 rfl
 refine And.intro ?_ ?_
 intro L_ wr hX_ hs_ hf_ hd_
 obtain ⟨_, e2, rfl⟩ := hd_ 2 rfl
 refine W.s1 (e2 _ rfl) ?_
 refine W.call Tryz.call46 rfl (Words.RPut64_ok none 0 [] x.round.toNat _ (Sl.none _ _) (by simp)) rfl ?_
 rintro v51 w51 ⟨hO51, hX51⟩
 rw [List.nil_append] at hO51
 exact W.e1 hX51 (Ow.rep hO51)
 refine And.intro ?_ ?_
 intro L_ wr hX_ hs_ hf_ hd_
 exact W.s1 (hs_ 1 _ rfl) (W.fieldB (off := 1) (size := 1) (t := 3) (Fld.of (by kernel_rfl)) rfl rfl rfl (W.e0 rfl))
 refine And.intro ?_ ?_
 intro L_ wr hX_ hs_ hf_ hd_
 obtain ⟨_, e4, rfl⟩ := hd_ 4 rfl
 refine W.s1 (e4 _ rfl) ?_
 refine W.loadB rfl Tryz.underlying3 rfl (Bk.ext (by assumption) hX_) rfl rfl ?_
 exact W.e0 rfl
 refine And.intro ?_ ?_
 intro L_ wr hX_ hs_ hf_ hd_
 obtain ⟨_, e5, rfl⟩ := hd_ 5 rfl
 refine W.s1 (e5 _ rfl) ?_
 refine W.convIN (M := 18446744073709551616) rfl Tryz.underlying3 Tryz.underlying83 rfl rfl (by omega) rfl ?_
 refine W.eqv (v' := u64V x.chain.toNat) (iV (by omega)) ?_
 exact W.e0 rfl
 refine And.intro ?_ ?_
 intro L_ wr hX_ hs_ hf_ hd_
 obtain ⟨v3, e3, r3⟩ := hd_ 3 rfl
 obtain ⟨a3, c3, rfl, hb3⟩ := r3
 obtain ⟨_, e6, rfl⟩ := hd_ 6 rfl
 refine W.s2 (e3 _ rfl) (e6 _ rfl) ?_
 refine W.call Tryz.call46 rfl (Words.RPut64_ok a3 c3 (be64 x.round.toNat) x.chain.toNat _ hb3 (by rw [be64_length]; decide)) rfl ?_
 rintro v55 w55 ⟨hO55, hX55⟩
 exact W.e1 hX55 (Ow.rep hO55)
 refine And.intro ?_ ?_
 intro L_ wr hX_ hs_ hf_ hd_
 exact W.s1 (hs_ 1 _ rfl) (W.fieldB (off := 2) (size := 1) (t := 36) (Fld.of (by kernel_rfl)) rfl rfl rfl (W.e0 rfl))
 refine And.intro ?_ ?_
 intro L_ wr hX_ hs_ hf_ hd_
 obtain ⟨_, e8, rfl⟩ := hd_ 8 rfl
 refine W.s1 (e8 _ rfl) ?_
 refine W.loadB rfl Tryz.underlying36 rfl (Bk.ext (by assumption) hX_) rfl rfl ?_
 exact W.e0 rfl
 refine And.intro ?_ ?_
 intro L_ wr hX_ hs_ hf_ hd_
 obtain ⟨_, e9, rfl⟩ := hd_ 9 rfl
 exact W.s1 (e9 _ rfl) (W.lenS rfl Tryz.underlying36 rfl (W.e0 rfl))
 refine And.intro ?_ ?_
 intro L_ wr hX_ hs_ hf_ hd_
 obtain ⟨_, e10, rfl⟩ := hd_ 10 rfl
 refine W.s1 (e10 _ rfl) ?_
 refine W.convIN (M := 18446744073709551616) rfl Tryz.underlying3 Tryz.underlying83 rfl rfl (by omega) rfl ?_
 refine W.eqv (v' := u64V x.inner.length) (iV (by omega)) ?_
 exact W.e0 rfl
 exact trivial
 intro L_ wr hX12 hs_ hv_
 obtain ⟨v7, e7, r7⟩ := hv_ 7 (by decide)
 obtain ⟨a7, c7, rfl, hb7⟩ := r7
 obtain ⟨_, e11, rfl⟩ := hv_ 11 (by decide)
 refine W.weaken (l' := [(55, _), (59, _), (1, _), (4, _)]) (sc (e7 _ rfl) (sc (e11 _ rfl) (sc (hs_ _ _ rfl) (sc (hs_ _ _ rfl) (Sub.nil))))) ?_
 have hXr := hX12
 refine W.call Tryz.call46 rfl (Words.RPut64_ok a7 c7 (be64 x.round.toNat ++ be64 x.chain.toNat) x.inner.length _ hb7 (by simp only [List.length_append, be64_length]; decide)) rfl ?_
 rintro v60 w60 ⟨hO60, hX60⟩
 have hXc := hXr.ext hX60
 obtain ⟨H, hH⟩ : ∃ H, H = be64 x.round.toNat ++ be64 x.chain.toNat ++ be64 x.inner.length := ⟨_, rfl⟩
 have hHl : H.length = 24 := by rw [hH]; simp only [List.length_append, be64_length]
 rw [← hH] at hO60
 refine W.assign rfl rfl (W.nil (At.thenCode (C.seq (C.seq (C.region (W.assign rfl rfl (W.nil (At.thenCode (C.block ?_)))))))))
 refine C.loop (X := Nat × Value) (fun x_ => [(1, .pointer (some ⟨g1, 0, none⟩)), (4, .int .i64 (sizeL x.lets : Int)), (6, x_.2), (7, .int .i64 (x_.1 : Int))]) (fun x_ wm => x_.1 ≤ x.inner.length ∧ Ext wb wm ∧ Ow wm wb.heap.size 5 x_.2 (H ++ putsL (x.inner.take x_.1))) (fun x_ => x.inner.length - x_.1) (0, v60) (sc rfl (sc rfl (sc rfl (sc rfl (Sub.nil))))) ?start2 ?_
 case start2 =>
   show (0) ≤ x.inner.length ∧ Ext wb _ ∧ Ow _ wb.heap.size 5 (v60) (H ++ putsL (x.inner.take (0)))
   exact ⟨by omega, hXc, by simpa [putsL] using ownsRow_base hO60 (Chg.size hXr)⟩
 rintro ⟨j, v⟩ wm hI_
 replace hI_ : j ≤ x.inner.length ∧ Ext wb wm ∧ Ow wm wb.heap.size 5 v (H ++ putsL (x.inner.take j)) := hI_
 obtain ⟨hj, hXm, hOm⟩ := hI_
 refine C.weaken (l' := [(1, .pointer (some ⟨g1, 0, none⟩)), (4, .int .i64 (sizeL x.lets : Int)), (6, v), (7, .int .i64 (j : Int))]) (sc rfl (sc rfl (sc rfl (sc rfl (Sub.nil))))) ?_
 refine C.seq (C.seq (C.region ?_))
 have hB1m := hB1.ext hXm
 have hXbm := hXb.ext hXm
 refine W.move rfl rfl (W.fieldB (off := 2) (size := 1) (t := 36) (Fld.of (by kernel_rfl)) rfl rfl rfl ?_)
 refine W.loadB rfl Tryz.underlying36 rfl (by assumption) rfl rfl ?_
 refine W.lenS rfl Tryz.underlying36 rfl (W.lssI rfl rfl rfl (W.nil (At.thenCode ?_)))
 refine C.condD rfl (fun c65 => ?_) (fun c65 => ?_)
 have hlt : j < x.inner.length := by omega
 have hlen1 : (putsL (x.inner.take j)).length ≤ 160 := by rw [putsL_length, List.length_take]; omega
 obtain ⟨X, hX⟩ : ∃ X, X = H ++ putsL (x.inner.take j) := ⟨_, rfl⟩
 have hXlen : X.length ≤ 200 := by rw [hX, List.length_append]; omega
 rw [← hX] at hOm
 obtain ⟨a6, c6, rfl, hS6, _⟩ := ownsRow_form hOm
 refine C.skip (At.thenCode (C.seq (C.block (C.region (W.move rfl rfl (W.fieldB (off := 2) (size := 1) (t := 36) (Fld.of (by kernel_rfl)) rfl rfl rfl ?_))))))
 refine W.loadB rfl Tryz.underlying36 rfl (by assumption) rfl rfl ?_
 refine W.move rfl rfl ?_
 refine W.indexS (i := (j : Int)) U64 Tryz.underlying36 rfl (hU.ext hXbm) rfl ⟨by omega, by omega⟩ rfl ?_
 intro ad72 _ _ hq72
 have hc72 := hq72 0 (u64V x.inner[j]) (by rw [List.getElem?_drop, Int.toNat_natCast, Nat.mul_one, Nat.add_zero]; exact get_u64 hlt)
 rw [add_zero'] at hc72
 refine W.load (v := .int .u64 ((x.inner[j] : Nat) : Int)) rfl Tryz.underlying83 rfl hc72 rfl ?_
 refine W.call Tryz.call46 rfl (Words.RPut64_ok a6 c6 X x.inner[j] _ hS6 (by omega)) rfl ?_
 rintro v74 w74 ⟨hO74, hX74⟩
 refine W.assign rfl rfl (W.nil (At.blockNormal (At.thenCode (C.region (W.move rfl rfl ?_)))))
 refine W.addI rfl rfl (by omega) rfl ?_
 refine W.assign rfl rfl (W.nil ?_)
 refine At.thenRound (j + 1, v74) (sc rfl (sc rfl (sc rfl (sc (look_eq rfl (iV (by omega))) (Sub.nil))))) (show (j + 1) ≤ x.inner.length ∧ Ext wb _ ∧ Ow _ wb.heap.size 5 (v74) (H ++ putsL (x.inner.take (j + 1))) from ?_) (show x.inner.length - (j + 1) < x.inner.length - j from ?_)
 refine ⟨by omega, hXm.ext hX74, ?_⟩
 rw [List.take_succ_eq_append_getElem hlt, putsL_append, ← List.append_assoc, ← hX]
 rw [show putsL [x.inner[j]] = be64 x.inner[j] from by simp [putsL]]
 exact ownsRow_base hO74 (Chg.size hXm)
 omega
 obtain rfl : j = x.inner.length := by omega
 rw [List.take_length] at hOm
 have hplI := putsL_length x.inner
 obtain ⟨X, hX⟩ : ∃ X, X = H ++ putsL x.inner := ⟨_, rfl⟩
 have hXlen : X.length ≤ 200 := by rw [hX, List.length_append]; omega
 rw [← hX] at hOm
 obtain ⟨a6, c6, rfl, hS6, _⟩ := ownsRow_form hOm
 refine C.exit (At.thenExit (At.thenExit (At.blockSelf (At.thenCode (C.seq (C.region (W.move rfl rfl (W.fieldB (off := 3) (size := 1) (t := 37) (Fld.of (by kernel_rfl)) rfl rfl rfl ?_))))))))
 refine W.loadB rfl Tryz.underlying37 rfl (by assumption) rfl rfl ?_
 refine W.lenS rfl Tryz.underlying37 rfl ?_
 refine W.convIN (M := 18446744073709551616) rfl Tryz.underlying3 Tryz.underlying83 rfl rfl (by omega) rfl ?_
 refine W.eqv (v' := u64V x.lets.length) (iV (by omega)) ?_
 refine W.call Tryz.call46 rfl (Words.RPut64_ok a6 c6 X x.lets.length _ hS6 (by omega)) rfl ?_
 rintro v80 w80 ⟨hO80, hX80⟩
 obtain ⟨a80, c80, rfl, hS80, _⟩ := ownsRow_form hO80
 refine W.move rfl rfl ?_
 refine W.convIN (M := 18446744073709551616) rfl Tryz.underlying3 Tryz.underlying83 rfl rfl (by omega) rfl ?_
 refine W.eqv (v' := u64V (sizeL x.lets)) (iV (by omega)) ?_
 refine W.call Tryz.call46 rfl (Words.RPut64_ok a80 c80 (X ++ be64 x.lets.length) (sizeL x.lets) _ hS80 (by rw [List.length_append, be64_length]; omega)) rfl ?_
 rintro v83 w83 ⟨hO83, hX83⟩
 have hXd := (hXm.ext hX80).ext hX83
 have hOd := ownsRow_base hO83 (Nat.le_trans (Chg.size hXm) (Chg.size hX80))
 obtain ⟨Y, hY⟩ : ∃ Y, Y = X ++ be64 x.lets.length ++ be64 (sizeL x.lets) := ⟨_, rfl⟩
 have hYlen : Y.length ≤ 300 := by rw [hY]; simp only [List.length_append, be64_length]; omega
 rw [← hY] at hOd
 refine W.assign rfl rfl (W.nil (At.thenCode (C.seq (C.seq (C.region (W.assign rfl rfl (W.nil (At.thenCode (C.block ?_)))))))))
 refine C.loop (X := Nat × Value) (fun x_ => [(1, .pointer (some ⟨g1, 0, none⟩)), (4, .int .i64 (sizeL x.lets : Int)), (6, x_.2), (8, .int .i64 (x_.1 : Int))]) (fun x_ wl => x_.1 ≤ x.lets.length ∧ Ext wb wl ∧ Ow wl wb.heap.size 5 x_.2 (Y ++ encLets (x.lets.take x_.1)) ∧ ∀ p ∈ x.lets.take x_.1, p.2.length = sizeL x.lets) (fun x_ => x.lets.length - x_.1) (0, v83) (sc rfl (sc rfl (sc rfl (sc rfl (Sub.nil))))) ?start3 ?_
 case start3 =>
   show (0) ≤ x.lets.length ∧ Ext wb _ ∧ Ow _ wb.heap.size 5 (v83) (Y ++ encLets (x.lets.take (0))) ∧ ∀ p ∈ x.lets.take (0), p.2.length = sizeL x.lets
   exact ⟨by omega, hXd, by simpa [encLets] using hOd, by simp⟩
 rintro ⟨j, vo⟩ wl hI_
 replace hI_ : j ≤ x.lets.length ∧ Ext wb wl ∧ Ow wl wb.heap.size 5 vo (Y ++ encLets (x.lets.take j)) ∧ ∀ p ∈ x.lets.take j, p.2.length = sizeL x.lets := hI_
 obtain ⟨hj, hXl, hOl, hsz⟩ := hI_
 refine C.weaken (l' := [(1, .pointer (some ⟨g1, 0, none⟩)), (4, .int .i64 (sizeL x.lets : Int)), (6, vo), (8, .int .i64 (j : Int))]) (sc rfl (sc rfl (sc rfl (sc rfl (Sub.nil))))) ?_
 refine C.seq (C.seq (C.region ?_))
 have hB1l := hB1.ext hXl
 have hXbl := hXb.ext hXl
 refine W.move rfl rfl (W.fieldB (off := 3) (size := 1) (t := 37) (Fld.of (by kernel_rfl)) rfl rfl rfl ?_)
 refine W.loadB rfl Tryz.underlying37 rfl (by assumption) rfl rfl ?_
 refine W.lenS rfl Tryz.underlying37 rfl (W.lssI rfl rfl rfl (W.nil (At.thenCode ?_)))
 refine C.condD rfl (fun c88 => ?_) (fun c88 => ?_)
 have hlt : j < x.lets.length := by omega
 have hmem : x.lets[j] ∈ x.lets := List.getElem_mem hlt
 have hto := hol _ hmem
 have hlen1 : (encLets (x.lets.take j)).length ≤ 1000 * (32 + 1048576) := by
   have := encLets_le (l := x.lets.take j) (m := 1048576) (fun p hp => ⟨hsm p (List.mem_of_mem_take hp), hol p (List.mem_of_mem_take hp)⟩)
   have h2 : (x.lets.take j).length ≤ 1000 := by rw [List.length_take]; omega
   exact Nat.le_trans this (Nat.mul_le_mul_right (32 + 1048576) h2)
 have hlen2 : 1000 * (32 + 1048576) = 1048608000 := by decide
 rw [hlen2] at hlen1
 have hsmj := hsm _ hmem
 obtain ⟨X', hX'⟩ : ∃ X', X' = Y ++ encLets (x.lets.take j) := ⟨_, rfl⟩
 have hXlen' : X'.length ≤ 1048608300 := by rw [hX', List.length_append]; omega
 rw [← hX'] at hOl
 have hown : ∀ k, vo.ownBlock = some k → wb.heap.size ≤ k ∧ k < wl.heap.size := fun k hk => World.ownsRow.lt hOl k hk
 have hwb := Chg.size hXb
 have hwbl := Chg.size hXl
 have hall : ∀ {a b : World}, GP wl.heap.size 5 1 0 (fun k => vo.ownBlock = some k) ((X' ++ x.lets[j].1 ++ x.lets[j].2).map byteV) a b → Chg A a b := fun h => GP.all h (fun k hk => hAi k (by have := hown k hk; omega)) (fun k hk => hAi k (by omega))
 have hEl := hEb.ext rLet hXbl
 have hg1 := hB1.lt
 refine C.skip (At.thenCode (C.seq (C.block (C.seq (C.seq (C.region (W.fieldB (off := 3) (size := 1) (t := 37) (Fld.of (by kernel_rfl)) rfl rfl rfl ?_)))))))
 refine W.loadB rfl Tryz.underlying37 rfl (by assumption) rfl rfl ?_
 refine W.move rfl rfl ?_
 refine W.indexE ELet Tryz.underlying37 rfl hEl rfl hlt rfl ?_
 rintro ad94 cs94 hc94 ⟨v94, rfl, hR94, hx94⟩ _
 obtain ⟨a94, c94, rfl, hs94, _⟩ := hR94.form
 refine W.fieldAddr (off := 32) (size := 1) (t := 22) (Fld.of (by kernel_rfl)) rfl rfl rfl ?_
 refine W.loadC (v := .slice a94 x.lets[j].2.length c94) hc94 (by rw [List.getElem?_append_right (by rw [List.length_map]; omega), List.length_map, hx94]; rfl) rfl Tryz.underlying22 rfl rfl ?_
 refine W.lenS rfl Tryz.underlying22 rfl (W.move rfl rfl (W.neqI rfl rfl rfl (W.nil (At.thenCode ?_))))
 refine C.condD rfl (fun c99 => ?_) (fun c99 => ?_)
 have hEE : batE x = 1 := by unfold batE; rw [if_neg hshort, if_pos (Or.inr (Or.inr ⟨x.lets[j], hmem, by omega⟩))]
 have hEB : batB x = [] := by unfold batB; rw [hEE]; rfl
 refine C.seq (C.region (W.assign rfl rfl (W.assign rfl rfl (W.nil (At.thenCode (C.ret (At.thenRet (At.blockRet (At.thenRet (At.thenRet (At.blockRet ?_)))))))))))
 refine At.thenRet ?_
 refine At.ret2 Tryz.results41 rfl rfl ?_
 first
 | exact ⟨none, 0, by rw [hEB, hEE]; rfl, by rw [hEB]; exact NewB.nil _ _, hXb⟩
 | exact ⟨none, 0, by rw [hEB, hEE]; rfl, by rw [hEB]; exact NewB.nil _ _, hXbl⟩
 | exact ⟨aR, cR, by rw [hEE]; rfl, ⟨hSR, fun ad ea _ => Nat.le_trans hwb (hbR ad ea)⟩, hXbl⟩
 refine C.skip (At.thenCode ?_)
 refine C.regionAnyG (GP wl.heap.size 5 1 0 (fun k => vo.ownBlock = some k) ((X' ++ x.lets[j].1 ++ x.lets[j].2).map byteV)) (GP.trans) (GP.ext) 14 (E_ (vo) :: E_ (.pointer (some ⟨g1, 3, none⟩)) :: E_ (.slice ao x.lets.length c) :: E_ (.int .i64 (j : Int)) :: (fun v w => ∃ ad, v = .pointer (some ad) ∧ (∃ v1, Cells w ad (x.lets[j].1.map byteV ++ [v1]) ∧ RByt A w [v1] x.lets[j].2) ∧ ¬ A ad.block) :: (fun v w => ∃ ad, v = .pointer (some ad) ∧ Cells w ad (x.lets[j].1.map byteV) ∧ ¬ A ad.block) :: (fun v w => ∃ ad, v = .slice (some ad) 32 32 ∧ Cells w ad (x.lets[j].1.map byteV) ∧ ¬ A ad.block) :: (fun v w => Ow w wb.heap.size 5 v (X' ++ x.lets[j].1) ∧ ∀ k, v.ownBlock = some k → vo.ownBlock = some k ∨ wl.heap.size ≤ k) :: E_ (.pointer (some ⟨g1, 3, none⟩)) :: E_ (.slice ao x.lets.length c) :: E_ (.int .i64 (j : Int)) :: (fun v w => ∃ ad, v = .pointer (some ad) ∧ (∃ v1, Cells w ad (x.lets[j].1.map byteV ++ [v1]) ∧ RByt A w [v1] x.lets[j].2) ∧ ¬ A ad.block) :: (fun v w => ∃ ad, v = .pointer (some ad) ∧ (∃ v1, w.cell? ad = some v1 ∧ RByt A w [v1] x.lets[j].2) ∧ ¬ A ad.block) :: (fun v w => RByt A w [v] x.lets[j].2) :: []) [(1, .pointer (some ⟨g1, 0, none⟩)), (4, .int .i64 (sizeL x.lets : Int)), (6, vo), (8, .int .i64 (j : Int))] [] (sc rfl (sc rfl (sc rfl (sc rfl (Sub.nil))))) (Sub.nil) (sc rfl (sc rfl (sc rfl (sc rfl (Sub.nil))))) (by kernel_rfl) rfl rfl rfl (sN (sN (sN (sN (sM (fun _ _ _ h g => by obtain ⟨ad, e, ⟨v1, h1, h2⟩, h3⟩ := h; exact ⟨ad, e, ⟨v1, h1.chg (hall g) h3, rByt.chg h2 (hall g)⟩, h3⟩) (sM (fun _ _ _ h g => by obtain ⟨ad, e, h1, h3⟩ := h; exact ⟨ad, e, h1.chg (hall g) h3, h3⟩) (sM (fun _ _ _ h g => by obtain ⟨ad, e, h1, h3⟩ := h; exact ⟨ad, e, h1.chg (hall g) h3, h3⟩) (sM (fun _ _ _ ⟨ho, h2⟩ gp => ⟨GP.rowB gp ho (List.prefix_append _ _), h2⟩) (sN (sN (sN (sM (fun _ _ _ h g => by obtain ⟨ad, e, ⟨v1, h1, h2⟩, h3⟩ := h; exact ⟨ad, e, ⟨v1, h1.chg (hall g) h3, rByt.chg h2 (hall g)⟩, h3⟩) (sM (fun _ _ _ h g => by obtain ⟨ad, e, ⟨v1, h1, h2⟩, h3⟩ := h; exact ⟨ad, e, ⟨v1, Chg.cell (hall g) h1 h3, rByt.chg h2 (hall g)⟩, h3⟩) (sM (fun _ _ _ h g => rByt.chg h (hall g)) (trivial))))))))))))))) ?_ ?_
 refine And.intro ?_ ?_
 intro L_ wr hX_ hs_ hf_ hd_
 refine W.s1 (hs_ 6 _ rfl) (W.move rfl rfl (W.nil ?_))
 exact At.step ((GP.ext) _ _ (Ext.refl _)) rfl
 refine And.intro ?_ ?_
 intro L_ wr hX_ hs_ hf_ hd_
 refine W.s1 (hs_ 1 _ rfl) (W.fieldB (off := 3) (size := 1) (t := 37) (Fld.of (by kernel_rfl)) rfl rfl rfl (W.nil ?_))
 exact At.step ((GP.ext) _ _ (Ext.refl _)) rfl
 refine And.intro ?_ ?_
 intro L_ wr hX_ hs_ hf_ hd_
 obtain ⟨_, e1, rfl⟩ := hd_ 1 rfl
 refine W.s1 (e1 _ rfl) ?_
 refine W.loadB (v := .slice ao x.lets.length c) rfl Tryz.underlying37 rfl (GP.bkOld hX_ hB1l (by omega) (fun hk => by have := hown _ hk; omega)) rfl rfl ?_
 refine W.nil ?_
 exact At.step ((GP.ext) _ _ (Ext.refl _)) rfl
 refine And.intro ?_ ?_
 intro L_ wr hX_ hs_ hf_ hd_
 refine W.s1 (hs_ 8 _ rfl) (W.move rfl rfl (W.nil ?_))
 exact At.step ((GP.ext) _ _ (Ext.refl _)) rfl
 refine And.intro ?_ ?_
 intro L_ wr hX_ hs_ hf_ hd_
 obtain ⟨_, e2, rfl⟩ := hd_ 2 rfl
 obtain ⟨_, e3, rfl⟩ := hd_ 3 rfl
 refine W.s2 (e2 _ rfl) (e3 _ rfl) ?_
 refine W.indexEA ELet Tryz.underlying37 rfl (hEl.chg rLet (hall hX_)) rfl hlt rfl ?_
 rintro ad104 cs104 hc104 ⟨v104, rfl, hR104, hx104⟩ _ hn104
 refine W.nil ?_
 exact At.step (GP.ext _ _ (Ext.refl _)) ⟨ad104, rfl, ⟨v104, hc104, hR104⟩, hn104⟩
 refine And.intro ?_ ?_
 intro L_ wr hX_ hs_ hf_ hd_
 obtain ⟨v4, e4, r4⟩ := hd_ 4 rfl
 obtain ⟨ad4, rfl, ⟨v4, hc4, hR4⟩, hn4⟩ := r4
 refine W.s1 (e4 _ rfl) ?_
 refine W.fieldAddr (off := 0) (size := 32) (t := 43) (Fld.of (by kernel_rfl)) rfl rfl rfl ?_
 refine W.nil ?_
 exact At.step (GP.ext _ _ (Ext.refl _)) ⟨ad4.add 0, rfl, by rw [add_zero']; have := hc4.take 32; rwa [List.take_append_of_le_length (by simp [hto]), List.take_of_length_le (by simp [hto])] at this, by rwa [add_block]⟩
 refine And.intro ?_ ?_
 intro L_ wr hX_ hs_ hf_ hd_
 obtain ⟨v5, e5, r5⟩ := hd_ 5 rfl
 obtain ⟨ad5, rfl, hc5, hn5⟩ := r5
 refine W.s1 (e5 _ rfl) ?_
 refine W.sliceAG X8 Tryz.underlying43 rfl rfl ?_
 refine W.nil ?_
 exact At.step (GP.ext _ _ (Ext.refl _)) ⟨ad5, rfl, hc5, hn5⟩
 refine And.intro ?_ ?_
 intro L_ wr hX_ hs_ hf_ hd_
 obtain ⟨v0, e0, r0⟩ := hd_ 0 rfl
 obtain rfl : (vo : Value) = v0 := Eq.symm r0
 obtain ⟨v6, e6, r6⟩ := hd_ 6 rfl
 obtain ⟨ad6, rfl, hc6, hn6⟩ := r6
 refine W.s2 (e0 _ rfl) (e6 _ rfl) ?_
 have hoL : Ow wr wb.heap.size 5 vo X' := GP.rowB hX_ hOl (by rw [List.append_assoc]; exact List.prefix_append _ _)
 have hs6 : Bs wr (some ad6) 32 x.lets[j].1 := by have := Cells.bs hc6; rwa [hto] at this
 refine W.appendGB (ys := x.lets[j].1) E8 Tryz.underlying22 rfl (look_eq rfl (by rw [hto])) hoL hs6 (by omega) (by have := hX_.size; omega) rfl ?_
 intro v107 w107 ho107 hg107
 refine W.nil ?_
 exact At.step (GP.grewB hg107 hoL (List.prefix_append _ _) (fun k hk => Or.inl hk)) ⟨ho107, fun k hk => (hg107.own k hk).imp id fun h => Nat.le_trans hX_.size h⟩
 refine And.intro ?_ ?_
 intro L_ wr hX_ hs_ hf_ hd_
 refine W.s1 (hs_ 1 _ rfl) (W.fieldB (off := 3) (size := 1) (t := 37) (Fld.of (by kernel_rfl)) rfl rfl rfl (W.nil ?_))
 exact At.step ((GP.ext) _ _ (Ext.refl _)) rfl
 refine And.intro ?_ ?_
 intro L_ wr hX_ hs_ hf_ hd_
 obtain ⟨_, e8, rfl⟩ := hd_ 8 rfl
 refine W.s1 (e8 _ rfl) ?_
 refine W.loadB (v := .slice ao x.lets.length c) rfl Tryz.underlying37 rfl (GP.bkOld hX_ hB1l (by omega) (fun hk => by have := hown _ hk; omega)) rfl rfl ?_
 refine W.nil ?_
 exact At.step ((GP.ext) _ _ (Ext.refl _)) rfl
 refine And.intro ?_ ?_
 intro L_ wr hX_ hs_ hf_ hd_
 refine W.s1 (hs_ 8 _ rfl) (W.move rfl rfl (W.nil ?_))
 exact At.step ((GP.ext) _ _ (Ext.refl _)) rfl
 refine And.intro ?_ ?_
 intro L_ wr hX_ hs_ hf_ hd_
 obtain ⟨_, e9, rfl⟩ := hd_ 9 rfl
 obtain ⟨_, e10, rfl⟩ := hd_ 10 rfl
 refine W.s2 (e9 _ rfl) (e10 _ rfl) ?_
 refine W.indexEA ELet Tryz.underlying37 rfl (hEl.chg rLet (hall hX_)) rfl hlt rfl ?_
 rintro ad111 cs111 hc111 ⟨v111, rfl, hR111, hx111⟩ _ hn111
 refine W.nil ?_
 exact At.step (GP.ext _ _ (Ext.refl _)) ⟨ad111, rfl, ⟨v111, hc111, hR111⟩, hn111⟩
 refine And.intro ?_ ?_
 intro L_ wr hX_ hs_ hf_ hd_
 obtain ⟨v11, e11, r11⟩ := hd_ 11 rfl
 obtain ⟨ad11, rfl, ⟨v11, hc11, hR11⟩, hn11⟩ := r11
 refine W.s1 (e11 _ rfl) ?_
 refine W.fieldAddr (off := 32) (size := 1) (t := 22) (Fld.of (by kernel_rfl)) rfl rfl rfl ?_
 refine W.nil ?_
 exact At.step (GP.ext _ _ (Ext.refl _)) ⟨ad11.add 32, rfl, ⟨v11, hc11 32 v11 (by rw [List.getElem?_append_right (by simp [hto]), List.length_map, hto]; rfl), hR11⟩, by rwa [add_block]⟩
 refine And.intro ?_ ?_
 intro L_ wr hX_ hs_ hf_ hd_
 obtain ⟨v12, e12, r12⟩ := hd_ 12 rfl
 obtain ⟨ad12, rfl, ⟨v12, hc12, hR12⟩, hn12⟩ := r12
 refine W.s1 (e12 _ rfl) ?_
 refine W.load rfl Tryz.underlying22 rfl hc12 rfl ?_
 refine W.nil ?_
 exact At.step (GP.ext _ _ (Ext.refl _)) hR12
 exact trivial
 intro L_ wr hX23 hs_ hv_
 obtain ⟨v7, e7, r7⟩ := hv_ 7 (by decide)
 obtain ⟨ho7, hv7⟩ := r7
 obtain ⟨v13, e13, r13⟩ := hv_ 13 (by decide)
 obtain ⟨a13, c13, rfl, hs13, _⟩ := RByt.form r13
 refine W.weaken (l' := [(107, _), (113, _), (1, _), (4, _), (6, _), (8, _)]) (sc (e7 _ rfl) (sc (e13 _ rfl) (sc (hs_ _ _ rfl) (sc (hs_ _ _ rfl) (sc (hs_ _ _ rfl) (sc (hs_ _ _ rfl) (Sub.nil))))))) ?_
 have hGr := hX23
 refine W.appendGB (ys := x.lets[j].2) E8 Tryz.underlying22 rfl rfl ho7 hs13 (by rw [List.length_append]; omega) (by have := hGr.size; omega) rfl ?_
 intro v114 w114 ho114 hg114
 have hG114 := GP.trans _ _ _ hGr (GP.grewB hg114 ho7 (List.prefix_refl _) (fun k hk => (hv7 k hk).imp id fun h => ⟨h, Nat.zero_le _⟩))
 have hX114 : Ext wb w114 := hXl.news (GP.chg hG114 (Nat.le_refl _)) (fun k hk => Or.inr (hown k hk).1)
 refine W.assign rfl rfl (W.nil (At.blockNormal (At.thenCode (C.region (W.move rfl rfl ?_)))))
 refine W.addI rfl rfl (by omega) rfl ?_
 refine W.assign rfl rfl (W.nil ?_)
 refine At.thenRound (j + 1, v114) (sc rfl (sc rfl (sc rfl (sc (look_eq rfl (iV (by omega))) (Sub.nil))))) (show (j + 1) ≤ x.lets.length ∧ Ext wb _ ∧ Ow _ wb.heap.size 5 (v114) (Y ++ encLets (x.lets.take (j + 1))) ∧ ∀ p ∈ x.lets.take (j + 1), p.2.length = sizeL x.lets from ?_) (show x.lets.length - (j + 1) < x.lets.length - j from ?_)
 refine ⟨by omega, hX114, ?_, ?_⟩
 rw [encLets_take hlt, ← List.append_assoc, ← hX', ← List.append_assoc]
 exact ho114
 intro p hp
 rw [List.take_succ_eq_append_getElem hlt] at hp
 rcases List.mem_append.1 hp with h | h
 exact hsz p h
 obtain rfl := List.mem_singleton.1 h
 omega
 omega
 obtain rfl : j = x.lets.length := by omega
 rw [List.take_length] at hOl hsz
 have hEE : batE x = 0 := by
   unfold batE
   rw [if_neg hshort, if_neg]
   rintro (h | h | ⟨p, hp, hq⟩)
   omega
   omega
   exact hq (hsz p hp)
 have hEB : batB x = Y ++ encLets x.lets := by unfold batB; rw [if_pos hEE, hY, hX, hH]; simp only [List.append_assoc]
 rw [← hEB] at hOl
 obtain ⟨aR, cR, rfl, hSR, hbR⟩ := ownsRow_form hOl
 have hwb := Chg.size hXb
 refine C.exit (At.thenExit (At.thenExit (At.blockSelf (At.thenCode (C.seq (C.region (W.move rfl rfl (W.assign rfl rfl (W.assign rfl rfl (W.nil (At.thenCode ?_)))))))))))
 refine C.ret ?_
 refine At.ret2 Tryz.results41 rfl rfl ?_
 first
 | exact ⟨none, 0, by rw [hEB, hEE]; rfl, by rw [hEB]; exact NewB.nil _ _, hXb⟩
 | exact ⟨none, 0, by rw [hEB, hEE]; rfl, by rw [hEB]; exact NewB.nil _ _, hXbl⟩
 | exact ⟨aR, cR, by rw [hEE]; rfl, ⟨hSR, fun ad ea _ => Nat.le_trans hwb (hbR ad ea)⟩, hXbl⟩
end Go.Proofs.YthiijdbiikljpaaGreat.Cod
