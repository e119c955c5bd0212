/- The walks of chapter 26's laws. -/
import Derived.Test.YtenjokoialgjbaaGen2
namespace Go.Proofs.Ytenjokoialgjbaa.Law26
open Go Go.RowKit Go.Proofs.Ytenjokoialgjbaa.KW Go.Proofs.Ytenjokoialgjbaa.Words Go.Proofs.Ytenjokoialgjbaa.Gen
set_option linter.unusedVariables false
set_option linter.unusedSimpArgs false
set_option maxRecDepth 100000
theorem n00 : eventsN 0 0 = 0 := rfl
theorem n23 : eventsN 2 3 = 5 := rfl
theorem alive_ok (w : World) : Ct Try.prog 13 #[] w (fun v w' => v = .bool true ∧ Ext w w') := by
  refine Ct.enter [] Try.func13 rfl rfl rfl rfl ?_
  refine C.seq ?_
  refine C.region ?_
  refine W.assign rfl rfl ?_
  refine W.nil ?_
  refine At.thenCode ?_
  refine C.seq ?_
  refine C.region ?_
  refine W.call Try.call19 rfl (Gen.Events_ok _ _ _ _) rfl ?_
  rintro v1 w1 ⟨⟨ao1, c1, rfl, hS1⟩, hX1⟩
  rw [n00]
  refine W.lenS rfl Try.underlying39 rfl ?_
  refine W.eqlI rfl rfl rfl ?_
  refine W.eqv (bT (by decide)) ?_
  refine W.move rfl rfl ?_
  refine W.wants rfl rfl rfl rfl ?_
  refine W.call Try.call19 rfl (Gen.Events_ok _ _ _ _) rfl ?_
  rintro v5 w5 ⟨⟨ao5, c5, rfl, hS5⟩, hX5⟩
  rw [n23]
  refine W.wants rfl rfl rfl rfl ?_
  refine W.lenS rfl Try.underlying39 rfl ?_
  refine W.wants rfl rfl rfl rfl ?_
  refine W.eqlI rfl rfl rfl ?_
  refine W.eqv (bT (by decide)) ?_
  refine W.pickT rfl rfl rfl ?_
  refine W.assign rfl rfl ?_
  refine W.nil ?_
  refine At.thenCode ?_
  refine C.ret ?_
  refine At.ret1 Try.results13 rfl ?_
  exact ⟨rfl, hX1.ext hX5⟩
theorem GenEvents_walk (seed users count : Int) (w : World) (h1 : -9223372036854775808 ≤ seed ∧ seed ≤ 9223372036854775807) (h2 : -9223372036854775808 ≤ users ∧ users ≤ 9223372036854775807) (h3 : -9223372036854775808 ≤ count ∧ count ≤ 9223372036854775807) :
    Ct Try.prog 5 #[.int .i64 seed, .int .i64 users, .int .i64 count] w (LawOk w) := by
  refine Ct.enter [(0, .int .i64 seed), (1, .int .i64 users), (2, .int .i64 count)] Try.func5 rfl rfl rfl rfl ?_
  refine C.seq ?_
  refine C.region ?_
  refine W.assign rfl rfl ?_
  refine W.nil ?_
  refine At.thenCode ?_
  refine C.seq ?_
  refine C.region ?_
  refine W.call Try.call13 rfl (alive_ok _) rfl ?_
  rintro v8 w8 ⟨rfl, hX8⟩
  refine W.assign rfl rfl ?_
  refine W.nil ?_
  refine At.thenCode ?_
  refine C.seq ?_
  refine C.region ?_
  refine W.move rfl rfl ?_
  refine W.move rfl rfl ?_
  refine W.wants rfl rfl rfl rfl ?_
  refine W.move rfl rfl ?_
  refine W.wants rfl rfl rfl rfl ?_
  refine W.move rfl rfl ?_
  refine W.wants rfl rfl rfl rfl ?_
  refine W.move rfl rfl ?_
  refine W.wants rfl rfl rfl rfl ?_
  refine W.call Try.call19 rfl (Gen.Events_ok _ _ _ _) rfl ?_
  rintro v14 w14 ⟨⟨ao14, c14, rfl, hS14⟩, hX14⟩
  refine W.wants rfl rfl rfl rfl ?_
  refine W.move rfl rfl ?_
  refine W.wants rfl rfl rfl rfl ?_
  refine W.move rfl rfl ?_
  refine W.wants rfl rfl rfl rfl ?_
  refine W.move rfl rfl ?_
  refine W.wants rfl rfl rfl rfl ?_
  refine W.call Try.call20 rfl (Gen.REvents_ok _ _ _ _) rfl ?_
  rintro v18 w18 ⟨⟨ao18, c18, rfl, hS18⟩, hX18⟩
  refine W.wants rfl rfl rfl rfl ?_
  refine W.call Try.call18 rfl (Gen.SameEvents_ok _ _ _ _ _ _ _ (hS14.ext hX18) hS18 (by have := eventsN_le users count; omega) (fun i hi => eventsC_typed seed users count i hi)) rfl ?_
  rintro v19 w19 ⟨rfl, hX19⟩
  refine W.eqv (v' := .bool true) (rfl) ?_
  refine W.pickT rfl rfl rfl ?_
  refine W.assign rfl rfl ?_
  refine W.nil ?_
  refine At.thenCode ?_
  refine C.ret ?_
  refine At.ret1 Try.results5 rfl ?_
  exact ⟨rfl, Ext.below (((hX8.ext hX14).ext hX18).ext hX19)⟩
theorem GenLots_walk (seed : Int) (ao : Option Addr) (c : Nat) (xs : List Int) (w : World) (h1 : -9223372036854775808 ≤ seed ∧ seed ≤ 9223372036854775807) (hS : Sl w ao xs.length c 1 (xs.map (.int .i64))) (hl : xs.length ≤ 9223372036854775807) (hb : ∀ x ∈ xs, -9223372036854775808 ≤ x ∧ x ≤ 9223372036854775807) :
    Ct Try.prog 4 #[.int .i64 seed, .slice ao xs.length c] w (LawOk w) := by
  refine Ct.enter [(0, .int .i64 seed), (1, .slice ao xs.length c)] Try.func4 rfl rfl rfl rfl ?_
  refine C.seq ?_
  refine C.region ?_
  refine W.assign rfl rfl ?_
  refine W.nil ?_
  refine At.thenCode ?_
  refine C.seq ?_
  refine C.region ?_
  refine W.call Try.call13 rfl (alive_ok _) rfl ?_
  rintro v10 w10 ⟨rfl, hX10⟩
  refine W.assign rfl rfl ?_
  refine W.nil ?_
  refine At.thenCode ?_
  refine C.seq ?_
  refine C.seq ?_
  refine C.region ?_
  refine W.move rfl rfl ?_
  first | refine W.notD rfl rfl ?_ | refine W.notB rfl rfl ?_
  refine W.move rfl rfl ?_
  refine W.wants rfl rfl rfl rfl ?_
  refine W.move rfl rfl ?_
  refine W.wants rfl rfl rfl rfl ?_
  refine W.lenS rfl Try.underlying31 rfl ?_
  refine W.wants rfl rfl rfl rfl ?_
  refine W.gtrI rfl rfl rfl ?_
  refine W.pickF rfl rfl rfl ?_
  refine W.nil ?_
  refine At.thenCode ?_
  first | refine C.condD rfl (fun c17 => ?_) (fun c17 => ?_) | refine C.cond rfl (fun c17 => ?_) (fun c17 => ?_)
  · refine C.seq ?_
    refine C.region ?_
    refine W.move rfl rfl ?_
    refine W.assign rfl rfl ?_
    refine W.nil ?_
    refine At.thenCode ?_
    refine C.ret ?_
    refine At.thenRet ?_
    refine At.ret1 Try.results4 rfl ?_
    first | exact ⟨rfl, Ext.below hX1⟩ | exact ⟨rfl, Ext.below hX10⟩
  · refine C.skip ?_
    refine At.thenCode ?_
    refine C.seq ?_
    refine C.region ?_
    refine W.move rfl rfl ?_
    refine W.call Try.call14 rfl (Gen.New_ok _ _) rfl ?_
    rintro v20 w20 ⟨ga, rfl, hga, hX20, hBa⟩
    refine W.assign rfl rfl ?_
    refine W.nil ?_
    refine At.thenCode ?_
    refine C.seq ?_
    refine C.region ?_
    refine W.move rfl rfl ?_
    first | refine W.addI rfl rfl (by omega) rfl ?_ | refine W.addW rfl rfl rfl ?_
    refine W.call Try.call14 rfl (Gen.New_ok _ _) rfl ?_
    rintro v23 w23 ⟨gb, rfl, hgb, hX23, hBb⟩
    have hla := hBa.lt
    refine W.assign rfl rfl ?_
    refine W.nil ?_
    refine At.thenCode ?_
    refine C.seq ?_
    refine C.region ?_
    refine W.move rfl rfl ?_
    refine W.call Try.call15 rfl (Gen.RNew_ok _ _) rfl ?_
    rintro v25 w25 ⟨gr, rfl, hgr, hX25, hBr⟩
    have hlb := hBb.lt
    have hlr := hBr.lt
    have hX0 := ((hX10.ext hX20).ext hX23).ext hX25
    have hs0 := (hX10).size
    have hs20 := hX20.size
    have hs23 := hX23.size
    have hs25 := hX25.size
    have hnn : ga ≠ gb ∧ ga ≠ gr ∧ gb ≠ gr ∧ w.heap.size ≤ ga ∧ w.heap.size ≤ gb ∧ w.heap.size ≤ gr := by omega
    have hao : ∀ ad, ao = some ad → (xs.map (.int .i64) : List Value) ≠ [] → ad.block < w.heap.size := fun ad e hne => hS.blk e hne
    refine W.assign rfl rfl ?_
    refine W.nil ?_
    refine At.thenCode ?_
    refine C.seq ?_
    refine C.seq ?_
    refine C.region ?_
    refine W.assign rfl rfl ?_
    refine W.nil ?_
    refine At.thenCode ?_
    refine C.block ?_
    refine C.loop (X := Nat × Nat × Nat) (fun x_ => [(1, .slice ao xs.length c), (6, .pointer (some ⟨ga, 0, none⟩)), (7, .pointer (some ⟨gb, 0, none⟩)), (8, .pointer (some ⟨gr, 0, none⟩)), (9, .int .i64 (x_.1 : Int))]) (fun x_ w1 => Ext w w1 ∧ x_.1 ≤ xs.length ∧ x_.2.1 < 4294967296 ∧ x_.2.2 < 4294967296 ∧ Bk w1 ga [.int .i64 (x_.2.1 : Int)] ∧ Bk w1 gr [.int .i64 (x_.2.1 : Int)] ∧ Bk w1 gb [.int .i64 (x_.2.2 : Int)]) (fun x_ => xs.length - x_.1) (0, st0 seed, st0 (IntKind.i64.wrap (seed + 1))) (Sub.cons (rfl) (Sub.cons (rfl) (Sub.cons (rfl) (Sub.cons (rfl) (Sub.cons (rfl) (Sub.nil)))))) ?start1 ?_
    case start1 =>
      show Ext w _ ∧ (0) ≤ xs.length ∧ (st0 seed) < 4294967296 ∧ (st0 (IntKind.i64.wrap (seed + 1))) < 4294967296 ∧ Bk _ ga [.int .i64 ((st0 seed) : Int)] ∧ Bk _ gr [.int .i64 ((st0 seed) : Int)] ∧ Bk _ gb [.int .i64 ((st0 (IntKind.i64.wrap (seed + 1))) : Int)]
      exact ⟨hX0, by omega, st0_lt _, st0_lt _, (hBa.ext hX23).ext hX25, hBr, hBb.ext hX25⟩
    rintro ⟨i, s, t⟩ w1 hI_
    replace hI_ : Ext w w1 ∧ i ≤ xs.length ∧ s < 4294967296 ∧ t < 4294967296 ∧ Bk w1 ga [.int .i64 (s : Int)] ∧ Bk w1 gr [.int .i64 (s : Int)] ∧ Bk w1 gb [.int .i64 (t : Int)] := hI_
    obtain ⟨hX1, hi, hs, ht, hBa, hBr, hBb⟩ := hI_
    refine C.weaken (l' := [(1, .slice ao xs.length c), (6, .pointer (some ⟨ga, 0, none⟩)), (7, .pointer (some ⟨gb, 0, none⟩)), (8, .pointer (some ⟨gr, 0, none⟩)), (9, .int .i64 (i : Int))]) (Sub.cons (rfl) (Sub.cons (rfl) (Sub.cons (rfl) (Sub.cons (rfl) (Sub.cons (rfl) (Sub.nil)))))) ?_
    refine C.seq ?_
    refine C.seq ?_
    refine C.region ?_
    refine W.move rfl rfl ?_
    refine W.move rfl rfl ?_
    refine W.lenS rfl Try.underlying31 rfl ?_
    refine W.lssI rfl rfl rfl ?_
    refine W.nil ?_
    refine At.thenCode ?_
    first | refine C.condD rfl (fun c29 => ?_) (fun c29 => ?_) | refine C.cond rfl (fun c29 => ?_) (fun c29 => ?_)
    · refine C.skip ?_
      refine At.thenCode ?_
      refine C.seq ?_
      refine C.block ?_
      refine C.seq ?_
      refine C.region ?_
      refine W.move rfl rfl ?_
      refine W.move rfl rfl ?_
      refine W.call Try.call16 rfl (Gen.Next_ok gb t _ _ ht hBb) rfl ?_
      rintro v34 w34 ⟨rfl, hc34, hBb⟩
      have hBa := hBa.chg hc34 (by omega)
      have hBr := hBr.chg hc34 (by omega)
      have hX34 : Ext w w34 := hX1.news hc34 (fun k hk => Or.inr (by omega))
      have hS34 := hS.ext hX34
      have hlt : i < xs.length := by omega
      obtain ⟨x, hx⟩ : ∃ x, x = xs[i]'hlt := ⟨_, rfl⟩
      have hgx : (xs.map (.int .i64) : List Value)[i]? = some (.int .i64 x) := by rw [List.getElem?_map, List.getElem?_eq_getElem hlt, hx]; rfl
      refine W.nil ?_
      refine At.thenCode ?_
      refine C.seq ?_
      refine C.regionAnyF (Fam (fun k b => (k = 5 ∧ b = ga) ∨ (k = 11 ∧ b = gr))) (Fam.trans _) (Fam.ext _) 13 ((fun v w => v = .pointer (some ⟨ga, 0, none⟩)) :: (fun v w => v = .slice ao xs.length c) :: (fun v w => v = .int .i64 (i : Int)) :: (fun v w => ∃ ad, v = .pointer (some ad) ∧ w.cell? ad = some (.int .i64 x) ∧ ad.block ≠ ga ∧ ad.block ≠ gr) :: (fun v w => v = .int .i64 x) :: (fun v w => v = .int .i64 (draw s x) ∧ Bk w ga [.int .i64 ((nx s : Nat) : Int)]) :: (fun v w => v = .pointer (some ⟨gr, 0, none⟩)) :: (fun v w => v = .slice ao xs.length c) :: (fun v w => v = .int .i64 (i : Int)) :: (fun v w => ∃ ad, v = .pointer (some ad) ∧ w.cell? ad = some (.int .i64 x) ∧ ad.block ≠ ga ∧ ad.block ≠ gr) :: (fun v w => v = .int .i64 x) :: (fun v w => v = .int .i64 (draw s x) ∧ Bk w gr [.int .i64 ((nx s : Nat) : Int)]) :: (fun v w => v = .bool false) :: []) [(1, .slice ao xs.length c), (6, .pointer (some ⟨ga, 0, none⟩)), (7, .pointer (some ⟨gb, 0, none⟩)), (8, .pointer (some ⟨gr, 0, none⟩)), (9, .int .i64 (i : Int))] [] (Sub.cons (rfl) (Sub.cons (rfl) (Sub.cons (rfl) (Sub.cons (rfl) (Sub.cons (rfl) (Sub.nil)))))) (Sub.nil) (Sub.cons (rfl) (Sub.cons (rfl) (Sub.cons (rfl) (Sub.cons (rfl) (Sub.cons (rfl) (Sub.nil)))))) (by kernel_rfl) rfl rfl rfl (And.intro (fun _ _ _ h _ => h) (And.intro (fun _ _ _ h _ => h) (And.intro (fun _ _ _ h _ => h) (And.intro (fun _ _ _ ⟨ad, hv, h, n1, n2⟩ g => ⟨ad, hv, Chg.cell g h (by rintro ⟨q, _, hq⟩; omega), n1, n2⟩) (And.intro (fun _ _ _ h _ => h) (And.intro (fun _ _ _ ⟨hv, h⟩ g => ⟨hv, Bk.chg h g (by rintro ⟨q, h1, h2⟩; omega)⟩) (And.intro (fun _ _ _ h _ => h) (And.intro (fun _ _ _ h _ => h) (And.intro (fun _ _ _ h _ => h) (And.intro (fun _ _ _ ⟨ad, hv, h, n1, n2⟩ g => ⟨ad, hv, Chg.cell g h (by rintro ⟨q, _, hq⟩; omega), n1, n2⟩) (And.intro (fun _ _ _ h _ => h) (And.intro (fun _ _ _ ⟨hv, h⟩ g => ⟨hv, Bk.chg h g (by rintro ⟨q, h1, h2⟩; omega)⟩) (And.intro (fun _ _ _ h _ => h) (trivial)))))))))))))) ?_ ?_
      · refine And.intro ?_ ?_
        · intro L_ w35 hX_ hs_ hf_ hd_
          refine W.step [(6, _)] (Sub.cons (hs_ _ _ rfl) (Sub.refl _)) ?_
          refine W.move rfl rfl ?_
          refine W.nil ?_
          exact At.stepF (Fam.ofExt (Ext.refl _)) rfl
        refine And.intro ?_ ?_
        · intro L_ w35 hX_ hs_ hf_ hd_
          refine W.step [(1, _)] (Sub.cons (hs_ _ _ rfl) (Sub.refl _)) ?_
          refine W.move rfl rfl ?_
          refine W.nil ?_
          exact At.stepF (Fam.ofExt (Ext.refl _)) rfl
        refine And.intro ?_ ?_
        · intro L_ w35 hX_ hs_ hf_ hd_
          refine W.step [(9, _)] (Sub.cons (hs_ _ _ rfl) (Sub.refl _)) ?_
          refine W.move rfl rfl ?_
          refine W.nil ?_
          exact At.stepF (Fam.ofExt (Ext.refl _)) rfl
        refine And.intro ?_ ?_
        · intro L_ w35 hX_ hs_ hf_ hd_
          obtain ⟨v1, e1, r1⟩ := hd_ 1 rfl
          obtain rfl : (.slice ao xs.length c : Value) = v1 := Eq.symm r1
          obtain ⟨v2, e2, r2⟩ := hd_ 2 rfl
          obtain rfl : (.int .i64 (i : Int) : Value) = v2 := Eq.symm r2
          refine W.step [(36, _), (37, _)] (Sub.cons e1 (Sub.cons e2 (Sub.refl _))) ?_
          have hSL : Sl w35 ao xs.length c 1 (xs.map (.int .i64)) := Sl.chg hS34 hX_ (fun ad e hne => by rintro ⟨q, _, hq⟩; have := hao ad e hne; omega)
          refine W.indexS XI Try.underlying31 rfl hSL rfl (by omega) rfl ?_
          intro adE hsE haE hcE'
          have hcE : w35.cell? adE = some (.int .i64 x) := by have := hcE' 0 (.int .i64 x) (by rw [List.getElem?_drop, Int.toNat_natCast, Nat.mul_one, Nat.add_zero]; exact hgx); rwa [add_zero'] at this
          have hnE : adE.block ≠ ga ∧ adE.block ≠ gr := by
            cases hao2 : ao with
            | none => rw [hao2] at hsE; cases hsE
            | some a =>
              have h1 := haE a hao2
              have h2 := hao a hao2 (by intro h; rw [h] at hgx; simp at hgx)
              rw [h1, add_block]; omega
          refine W.nil ?_
          exact At.stepF (Fam.ofExt (Ext.refl _)) ⟨_, rfl, hcE, hnE⟩
        refine And.intro ?_ ?_
        · intro L_ w35 hX_ hs_ hf_ hd_
          obtain ⟨v3, e3, r3⟩ := hd_ 3 rfl
          obtain ⟨ad3, rfl, hc3, _, _⟩ := r3
          refine W.step [(38, _)] (Sub.cons e3 (Sub.refl _)) ?_
          refine W.load rfl Try.underlying3 rfl hc3 rfl ?_
          refine W.nil ?_
          exact At.stepF (Fam.ofExt (Ext.refl _)) rfl
        refine And.intro ?_ ?_
        · intro L_ w35 hX_ hs_ hf_ hd_
          obtain ⟨v0, e0, r0⟩ := hd_ 0 rfl
          obtain rfl : (.pointer (some ⟨ga, 0, none⟩) : Value) = v0 := Eq.symm r0
          obtain ⟨v4, e4, r4⟩ := hd_ 4 rfl
          obtain rfl : (.int .i64 x : Value) = v4 := Eq.symm r4
          refine W.step [(35, _), (39, _)] (Sub.cons e0 (Sub.cons e4 (Sub.refl _))) ?_
          refine W.call Try.call16 rfl (Gen.Next_ok ga s _ _ hs (hBa.chg hX_ (by rintro ⟨q, h1, h2⟩; omega))) rfl ?_
          rintro v40 w40 ⟨rfl, hc40, hB40⟩
          refine W.nil ?_
          exact At.stepF (Fam.of 5 (hc40.mono fun k hk => Or.inl ⟨rfl, hk⟩)) ⟨rfl, hB40⟩
        refine And.intro ?_ ?_
        · intro L_ w35 hX_ hs_ hf_ hd_
          refine W.step [(8, _)] (Sub.cons (hs_ _ _ rfl) (Sub.refl _)) ?_
          refine W.move rfl rfl ?_
          refine W.nil ?_
          exact At.stepF (Fam.ofExt (Ext.refl _)) rfl
        refine And.intro ?_ ?_
        · intro L_ w35 hX_ hs_ hf_ hd_
          refine W.step [(1, _)] (Sub.cons (hs_ _ _ rfl) (Sub.refl _)) ?_
          refine W.move rfl rfl ?_
          refine W.nil ?_
          exact At.stepF (Fam.ofExt (Ext.refl _)) rfl
        refine And.intro ?_ ?_
        · intro L_ w35 hX_ hs_ hf_ hd_
          refine W.step [(9, _)] (Sub.cons (hs_ _ _ rfl) (Sub.refl _)) ?_
          refine W.move rfl rfl ?_
          refine W.nil ?_
          exact At.stepF (Fam.ofExt (Ext.refl _)) rfl
        refine And.intro ?_ ?_
        · intro L_ w35 hX_ hs_ hf_ hd_
          obtain ⟨v7, e7, r7⟩ := hd_ 7 rfl
          obtain rfl : (.slice ao xs.length c : Value) = v7 := Eq.symm r7
          obtain ⟨v8, e8, r8⟩ := hd_ 8 rfl
          obtain rfl : (.int .i64 (i : Int) : Value) = v8 := Eq.symm r8
          refine W.step [(42, _), (43, _)] (Sub.cons e7 (Sub.cons e8 (Sub.refl _))) ?_
          have hSL : Sl w35 ao xs.length c 1 (xs.map (.int .i64)) := Sl.chg hS34 hX_ (fun ad e hne => by rintro ⟨q, _, hq⟩; have := hao ad e hne; omega)
          refine W.indexS XI Try.underlying31 rfl hSL rfl (by omega) rfl ?_
          intro adE hsE haE hcE'
          have hcE : w35.cell? adE = some (.int .i64 x) := by have := hcE' 0 (.int .i64 x) (by rw [List.getElem?_drop, Int.toNat_natCast, Nat.mul_one, Nat.add_zero]; exact hgx); rwa [add_zero'] at this
          have hnE : adE.block ≠ ga ∧ adE.block ≠ gr := by
            cases hao2 : ao with
            | none => rw [hao2] at hsE; cases hsE
            | some a =>
              have h1 := haE a hao2
              have h2 := hao a hao2 (by intro h; rw [h] at hgx; simp at hgx)
              rw [h1, add_block]; omega
          refine W.nil ?_
          exact At.stepF (Fam.ofExt (Ext.refl _)) ⟨_, rfl, hcE, hnE⟩
        refine And.intro ?_ ?_
        · intro L_ w35 hX_ hs_ hf_ hd_
          obtain ⟨v9, e9, r9⟩ := hd_ 9 rfl
          obtain ⟨ad9, rfl, hc9, _, _⟩ := r9
          refine W.step [(44, _)] (Sub.cons e9 (Sub.refl _)) ?_
          refine W.load rfl Try.underlying3 rfl hc9 rfl ?_
          refine W.nil ?_
          exact At.stepF (Fam.ofExt (Ext.refl _)) rfl
        refine And.intro ?_ ?_
        · intro L_ w35 hX_ hs_ hf_ hd_
          obtain ⟨v6, e6, r6⟩ := hd_ 6 rfl
          obtain rfl : (.pointer (some ⟨gr, 0, none⟩) : Value) = v6 := Eq.symm r6
          obtain ⟨v10, e10, r10⟩ := hd_ 10 rfl
          obtain rfl : (.int .i64 x : Value) = v10 := Eq.symm r10
          refine W.step [(41, _), (45, _)] (Sub.cons e6 (Sub.cons e10 (Sub.refl _))) ?_
          refine W.call Try.call17 rfl (Gen.RNext_ok gr s _ _ hs (hBr.chg hX_ (by rintro ⟨q, h1, h2⟩; omega))) rfl ?_
          rintro v46 w46 ⟨rfl, hc46, hB46⟩
          refine W.nil ?_
          exact At.stepF (Fam.of 11 (hc46.mono fun k hk => Or.inr ⟨rfl, hk⟩)) ⟨rfl, hB46⟩
        refine And.intro ?_ ?_
        · intro L_ w35 hX_ hs_ hf_ hd_
          obtain ⟨v5, e5, r5⟩ := hd_ 5 rfl
          obtain ⟨rfl, hB5⟩ := r5
          obtain ⟨v11, e11, r11⟩ := hd_ 11 rfl
          obtain ⟨rfl, hB11⟩ := r11
          refine W.step [(40, _), (46, _)] (Sub.cons e5 (Sub.cons e11 (Sub.refl _))) ?_
          refine W.neqI rfl rfl rfl ?_
          refine W.eqv (bF (fun h => h rfl)) ?_
          refine W.nil ?_
          exact At.stepF (Fam.ofExt (Ext.refl _)) rfl
        exact trivial
      · intro L_ w35 hX11 hs_ hv_
        obtain ⟨v5, e5, r5⟩ := hv_ 5 (by decide)
        obtain ⟨rfl, hB5⟩ := r5
        obtain ⟨v11, e11, r11⟩ := hv_ 11 (by decide)
        obtain ⟨rfl, hB11⟩ := r11
        obtain ⟨v12, e12, r12⟩ := hv_ 12 (by decide)
        obtain rfl : (.bool false : Value) = v12 := Eq.symm r12
        refine W.weaken (l' := [(40, _), (46, _), (47, _), (1, _), (6, _), (7, _), (8, _), (9, _)]) (Sub.cons e5 (Sub.cons e11 (Sub.cons e12 (Sub.cons (hs_ _ _ rfl) (Sub.cons (hs_ _ _ rfl) (Sub.cons (hs_ _ _ rfl) (Sub.cons (hs_ _ _ rfl) (Sub.cons (hs_ _ _ rfl) (Sub.nil))))))))) ?_
        refine W.nil ?_
        refine At.thenCode ?_
        refine C.condF rfl ?_
        refine C.skip ?_
        refine At.blockNormal ?_
        refine At.thenCode ?_
        refine C.region ?_
        refine W.move rfl rfl ?_
        first | refine W.addI rfl rfl (by omega) rfl ?_ | refine W.addW rfl rfl rfl ?_
        refine W.assign rfl rfl ?_
        refine W.nil ?_
        refine At.thenRound (i + 1, nx s, nx t) (Sub.cons (rfl) (Sub.cons (rfl) (Sub.cons (rfl) (Sub.cons (rfl) (Sub.cons (look_eq rfl (by rw [show (i : Int) + 1 = ((i + 1 : Nat) : Int) by omega])) (Sub.nil)))))) (show Ext w _ ∧ (i + 1) ≤ xs.length ∧ (nx s) < 4294967296 ∧ (nx t) < 4294967296 ∧ Bk _ ga [.int .i64 ((nx s) : Int)] ∧ Bk _ gr [.int .i64 ((nx s) : Int)] ∧ Bk _ gb [.int .i64 ((nx t) : Int)] from ?_) (show xs.length - (i + 1) < xs.length - i from ?_)
        · exact ⟨hX34.news hX11 (fun k hk => Or.inr (by obtain ⟨q, _, hq⟩ := hk; omega)), by omega, nx_lt _, nx_lt _, hB5, hB11, hBb.chg hX11 (by rintro ⟨q, _, hq⟩; omega)⟩
        · omega
    · refine C.exit ?_
      refine At.thenExit ?_
      refine At.thenExit ?_
      refine At.blockSelf ?_
      refine At.thenCode ?_
      refine C.seq ?_
      refine C.region ?_
      refine W.assign rfl rfl ?_
      refine W.nil ?_
      refine At.thenCode ?_
      refine C.ret ?_
      refine At.ret1 Try.results4 rfl ?_
      first | exact ⟨rfl, Ext.below hX1⟩ | exact ⟨rfl, Ext.below hX10⟩
end Go.Proofs.Ytenjokoialgjbaa.Law26
