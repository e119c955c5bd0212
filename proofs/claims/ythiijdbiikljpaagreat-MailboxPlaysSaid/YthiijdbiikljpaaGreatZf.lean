/- Package codec's function that writes a batch. Package disk and the reference's disk: Append, Cut, Crash. -/
import Derived.Test.YthiijdbiikljpaaGreatZe
import Derived.Test.YthiijdbiikljpaaGreatZb
namespace Go.Proofs.YthiijdbiikljpaaGreat.Cod
open Go Go.RowKit Go.Proofs.YthiijdbiikljpaaGreat.KW Go.Proofs.YthiijdbiikljpaaGreat.Words Go.Proofs.YthiijdbiikljpaaGreat.Grp
set_option linter.unusedVariables false
set_option linter.unusedSimpArgs false
set_option maxRecDepth 100000
theorem lets_lens (ls : List Let) : (lenE 1000 (ls.map (·.2.length)) = if 1000 < ls.length ∨ longL ls then 3 else 0) ∧ (ls.map (·.2.length)).headD 0 = sizeL ls ∧ ((ls.map (·.2.length)).all (· == sizeL ls) = true ↔ ∀ p ∈ ls, p.2.length = sizeL ls) := by
 refine ⟨?_, ?_, ?_⟩
 unfold lenE
 rw [List.length_map]
 have : (∃ k ∈ ls.map (·.2.length), 1048576 < k) ↔ longL ls := by
   unfold longL
   constructor
   rintro ⟨k, hk, h⟩
   obtain ⟨p, hp, rfl⟩ := List.mem_map.1 hk
   exact ⟨p, hp, h⟩
   rintro ⟨p, hp, h⟩
   exact ⟨_, List.mem_map.2 ⟨p, hp, rfl⟩, h⟩
 simp only [this]
 cases ls with
 | nil => rfl
 | cons p r => rfl
 simp
def batC (x : BatD) (vi vl : Value) : List Value := [.int .i64 x.round, .int .i64 x.chain, vi, vl]
theorem RNums.form {A : Nat → Prop} {w : World} {v : Value} {xs : List Nat} (h : RNums A w [v] xs) : ∃ a c, v = .slice a xs.length c ∧ Us w a c xs ∧ (∀ ad, a = some ad → xs ≠ [] → ¬ A ad.block) ∧ ∀ x ∈ xs, x < M64 := by
 obtain ⟨a, c, e, h1⟩ := h
 exact ⟨a, c, by simpa using e, h1⟩
theorem Batch1_ok (g : Nat) (x : BatD) (vi : Value) (ao : Option Addr) (c : Nat) (A : Nat → Prop) (i : Nat) (w : World) (hB : Bk w g (batC x vi (.slice ao x.lets.length c))) (hE : Els A w 33 RLet ao c x.lets) (hi : i < x.lets.length) :
   Ct Tryz.prog 67 #[.int .i64 (i : Int), .pointer (some ⟨g, 0, none⟩)] w (fun v w' => v = .int .i64 ((x.lets[i].2.length : Nat) : Int) ∧ w = w') := by
 refine Ct.enter [(0, .int .i64 (i : Int)), (1, .pointer (some ⟨g, 0, none⟩))] Tryz.func67 rfl rfl rfl rfl ?_
 refine C.seq (C.region (W.assign rfl rfl (W.nil (At.thenCode (C.seq (C.region (W.fieldB (off := 3) (size := 1) (t := 37) (Fld.of (by kernel_rfl)) rfl rfl rfl ?_)))))))
 refine W.loadB rfl Tryz.underlying37 rfl (by assumption) rfl rfl ?_
 refine W.move rfl rfl ?_
 refine W.indexE ELet Tryz.underlying37 rfl hE rfl hi rfl ?_
 rintro ad7 cs7 hc7 ⟨v7, rfl, hR7, hx7⟩ _
 obtain ⟨a7, c7, rfl, hs7, _⟩ := hR7.form
 refine W.fieldAddr (off := 32) (size := 1) (t := 22) (Fld.of (by kernel_rfl)) rfl rfl rfl ?_
 refine W.loadC (v := .slice a7 x.lets[i].2.length c7) hc7 (by rw [List.getElem?_append_right (by rw [List.length_map]; omega), List.length_map, hx7]; rfl) rfl Tryz.underlying22 rfl rfl ?_
 refine W.lenS rfl Tryz.underlying22 rfl (W.assign rfl rfl (W.nil (At.thenCode (C.ret ?_))))
 refine At.ret1 Tryz.results67 rfl ?_
 exact ⟨rfl, rfl⟩
theorem Batch_ok (x : BatD) (vi vl : Value) (w : World) (hI : RNums (fun _ => False) w [vi] x.inner) (hL : RSl 33 RLet (fun _ => False) w [vl] x.lets) (ho : BatOk x) (hlenI : x.inner.length ≤ 9223372036854775807) (hlen : x.lets.length ≤ 9223372036854775807) (hbox : ∀ p ∈ x.lets, p.2.length ≤ 9223372036854775807) :
   Ct Tryz.prog 36 #[.agg (batC x vi vl).toArray] w (fun v w' => ∃ ao' c', v = .tuple #[.slice ao' (batB x).length c', .int .i64 (batE x : Int)] ∧ NewB w w' ao' c' (batB x) ∧ Ext w w') := by
 refine Ct.enter [(0, .agg (batC x vi vl).toArray)] Tryz.func36 rfl rfl rfl rfl ?_
 obtain ⟨hl1, hl2, hl3⟩ := lets_lens x.lets
 obtain ⟨ao, c, rfl, hE⟩ := hL.form
 obtain ⟨aI, cI, rfl, hU, _, hUl⟩ := hI.form
 have hEb : Els (fun k => w.heap.size ≤ k) w 33 RLet ao c x.lets := hE.new rLet fun k h1 h2 => by omega
 obtain ⟨hor, hoc, hoi, hol⟩ := ho
 refine C.seq (C.region ?_)
 refine W.box (batC x (.slice aI x.inner.length cI) (.slice ao x.lets.length c)) rfl rfl rfl ?_
 intro g1 w1 hg1 hX1 hB1
 have hE1 := hE.ext rLet hX1
 refine W.assign rfl rfl (W.assign rfl rfl (W.nil (At.thenCode (C.seq (C.seq (C.region (W.fieldB (off := 2) (size := 1) (t := 36) (Fld.of (by kernel_rfl)) rfl rfl rfl ?_)))))))
 refine W.loadB rfl Tryz.underlying36 rfl (by assumption) rfl rfl ?_
 refine W.lenS rfl Tryz.underlying36 rfl (W.gtrI rfl rfl rfl (W.nil (At.thenCode ?_)))
 refine C.condD rfl (fun c13 => ?_) (fun c13 => ?_)
 have hEE : batE x = 3 := by unfold batE; rw [if_pos (Or.inl (by omega))]
 have hEB : batB x = [] := by unfold batB; rw [hEE]; rfl
 refine C.seq (C.region (W.assign rfl rfl (W.assign rfl rfl (W.nil (At.thenCode (C.ret (At.thenRet ?_)))))))
 refine At.ret2 Tryz.results36 rfl rfl ?_
 first
 | exact ⟨aR, cR, by rw [hEE]; rfl, hNR, hXl⟩
 | exact ⟨none, 0, by rw [hEB, hEE]; rfl, by rw [hEB]; exact NewB.nil _ _, hX1⟩
 | exact ⟨none, 0, by rw [hEB, hEE, hl1]; rfl, by rw [hEB]; exact NewB.nil _ _, hX1⟩
 | (have hEE : batE x = 1 := by
      unfold batE; rw [if_neg hshort3, if_pos]
      first
      | exact Or.inl (by omega)
      | exact Or.inr (Or.inl (by omega))
    have hEB : batB x = [] := by unfold batB; rw [hEE]; rfl
    exact ⟨none, 0, by rw [hEB, hEE]; rfl, by rw [hEB]; exact NewB.nil _ _, hX1⟩)
 refine C.skip (At.thenCode (C.seq (C.region (W.fieldB (off := 3) (size := 1) (t := 37) (Fld.of (by kernel_rfl)) rfl rfl rfl ?_))))
 refine W.loadB rfl Tryz.underlying37 rfl (by assumption) rfl rfl ?_
 refine W.lenS rfl Tryz.underlying37 rfl ?_
 refine W.makeFunc rfl rfl ?_
 have hfv : FvNat Tryz.prog (.func (.func 67) #[] #[.pointer (some ⟨g1, 0, none⟩)]) (x.lets.map (·.2.length)) w1 := by
   refine ⟨_, _, rfl, Tryz.call67, fun i hi => ?_⟩
   have hi' : i < x.lets.length := by simpa using hi
   have := Batch1_ok g1 x _ ao c _ i w1 hB1 hE1 hi'
   simpa using this
 have hlc := Cod.lengths_ok 1000 (x.lets.map (·.2.length)) _ w1 hfv (by omega) (by simpa using hlen) (by intro k hk; obtain ⟨p, hp, rfl⟩ := List.mem_map.1 hk; exact hbox p hp)
 rw [List.length_map] at hlc
 refine W.call Tryz.call66 rfl hlc rfl ?_
 rintro v14 w14 ⟨rfl, rfl⟩
 refine W.move rfl rfl (W.extract rfl rfl rfl (W.extract rfl rfl rfl (W.extract rfl rfl rfl (W.assign rfl rfl (W.assign rfl rfl (W.assign rfl rfl (W.nil (At.thenCode (C.seq (C.seq (C.region ?_)))))))))))
 refine W.move rfl rfl (W.neqI rfl rfl rfl (W.nil (At.thenCode ?_)))
 refine C.condD rfl (fun c24 => ?_) (fun c24 => ?_)
 have he3 : lenE 1000 (x.lets.map (·.2.length)) ≠ 0 := by omega
 have hlong : 1000 < x.lets.length ∨ longL x.lets := by
   by_cases h : 1000 < x.lets.length ∨ longL x.lets
   exact h
   rw [if_neg h] at hl1; exact absurd hl1 he3
 rw [if_pos hlong] at hl1
 have hEE : batE x = 3 := by unfold batE; rw [if_pos (Or.inr hlong)]
 have hEB : batB x = [] := by unfold batB; rw [hEE]; rfl
 refine C.seq (C.region (W.move rfl rfl (W.assign rfl rfl (W.assign rfl rfl (W.nil (At.thenCode (C.ret (At.thenRet ?_))))))))
 refine At.ret2 Tryz.results36 rfl rfl ?_
 first
 | exact ⟨aR, cR, by rw [hEE]; rfl, hNR, hXl⟩
 | exact ⟨none, 0, by rw [hEB, hEE]; rfl, by rw [hEB]; exact NewB.nil _ _, hX1⟩
 | exact ⟨none, 0, by rw [hEB, hEE, hl1]; rfl, by rw [hEB]; exact NewB.nil _ _, hX1⟩
 | (have hEE : batE x = 1 := by
      unfold batE; rw [if_neg hshort3, if_pos]
      first
      | exact Or.inl (by omega)
      | exact Or.inr (Or.inl (by omega))
    have hEB : batB x = [] := by unfold batB; rw [hEE]; rfl
    exact ⟨none, 0, by rw [hEB, hEE]; rfl, by rw [hEB]; exact NewB.nil _ _, hX1⟩)
 have he0 : lenE 1000 (x.lets.map (·.2.length)) = 0 := by omega
 have hshort : ¬ (1000 < x.lets.length ∨ longL x.lets) := by
   intro h; rw [if_pos h] at hl1; omega
 have hin20 : x.inner.length ≤ 20 := by omega
 have hn1000 : x.lets.length ≤ 1000 := by have := fun c => hshort (Or.inl c); omega
 have hbox20 : ∀ p ∈ x.lets, p.2.length ≤ 1048576 := fun p hp => by
   have : ¬ 1048576 < p.2.length := fun c => hshort (Or.inr ⟨p, hp, c⟩)
   omega
 have hshort3 : ¬ (20 < x.inner.length ∨ 1000 < x.lets.length ∨ longL x.lets) := by
   rintro (h | h)
   omega
   exact hshort h
 have hlA : lenA 1000 (x.lets.map (·.2.length)) = (x.lets.map (·.2.length)).all (· == sizeL x.lets) := by unfold lenA; rw [if_pos he0, hl2]
 have hlF : lenF 1000 (x.lets.map (·.2.length)) = sizeL x.lets := by unfold lenF; rw [if_pos he0, hl2]
 refine C.skip (At.thenCode (C.seq (C.seq (C.region (W.fieldB (off := 0) (size := 1) (t := 3) (Fld.of (by kernel_rfl)) rfl rfl rfl ?_)))))
 refine W.loadB rfl Tryz.underlying3 rfl (by assumption) rfl rfl ?_
 refine W.lssI rfl rfl rfl (W.move rfl rfl ?_)
 refine W.splitD (fun g29 => ?_) (fun g29 => ?_)
 refine W.skips rfl rfl rfl rfl rfl rfl (W.skips rfl rfl rfl rfl rfl rfl (W.skips rfl rfl rfl rfl rfl rfl (W.pickT rfl rfl rfl (W.move rfl rfl (W.skips rfl rfl rfl rfl rfl rfl (W.skips rfl rfl rfl rfl rfl rfl (W.pickT rfl rfl rfl (W.nil (At.thenCode ?_)))))))))
 refine C.condT rfl ?_
 refine C.seq (C.region (W.assign rfl rfl (W.assign rfl rfl (W.nil (At.thenCode (C.ret (At.thenRet ?_)))))))
 refine At.ret2 Tryz.results36 rfl rfl ?_
 first
 | exact ⟨aR, cR, by rw [hEE]; rfl, hNR, hXl⟩
 | exact ⟨none, 0, by rw [hEB, hEE]; rfl, by rw [hEB]; exact NewB.nil _ _, hX1⟩
 | exact ⟨none, 0, by rw [hEB, hEE, hl1]; rfl, by rw [hEB]; exact NewB.nil _ _, hX1⟩
 | (have hEE : batE x = 1 := by
      unfold batE; rw [if_neg hshort3, if_pos]
      first
      | exact Or.inl (by omega)
      | exact Or.inr (Or.inl (by omega))
    have hEB : batB x = [] := by unfold batB; rw [hEE]; rfl
    exact ⟨none, 0, by rw [hEB, hEE]; rfl, by rw [hEB]; exact NewB.nil _ _, hX1⟩)
 refine W.wants rfl rfl rfl rfl (W.fieldB (off := 1) (size := 1) (t := 3) (Fld.of (by kernel_rfl)) rfl rfl rfl (W.wants rfl rfl rfl rfl ?_))
 refine W.loadB rfl Tryz.underlying3 rfl (by assumption) rfl rfl ?_
 refine W.wants rfl rfl rfl rfl (W.lssI rfl rfl rfl (W.pickF rfl rfl rfl (W.move rfl rfl ?_)))
 refine W.splitD (fun g34 => ?_) (fun g34 => ?_)
 refine W.skips rfl rfl rfl rfl rfl rfl (W.skips rfl rfl rfl rfl rfl rfl (W.pickT rfl rfl rfl (W.nil (At.thenCode ?_))))
 refine C.condT rfl ?_
 refine C.seq (C.region (W.assign rfl rfl (W.assign rfl rfl (W.nil (At.thenCode (C.ret (At.thenRet ?_)))))))
 refine At.ret2 Tryz.results36 rfl rfl ?_
 first
 | exact ⟨aR, cR, by rw [hEE]; rfl, hNR, hXl⟩
 | exact ⟨none, 0, by rw [hEB, hEE]; rfl, by rw [hEB]; exact NewB.nil _ _, hX1⟩
 | exact ⟨none, 0, by rw [hEB, hEE, hl1]; rfl, by rw [hEB]; exact NewB.nil _ _, hX1⟩
 | (have hEE : batE x = 1 := by
      unfold batE; rw [if_neg hshort3, if_pos]
      first
      | exact Or.inl (by omega)
      | exact Or.inr (Or.inl (by omega))
    have hEB : batB x = [] := by unfold batB; rw [hEE]; rfl
    exact ⟨none, 0, by rw [hEB, hEE]; rfl, by rw [hEB]; exact NewB.nil _ _, hX1⟩)
 refine W.wants rfl rfl rfl rfl (W.move rfl rfl (W.wants rfl rfl rfl rfl ?_))
 first | refine W.notD rfl rfl ?_ | refine W.notB rfl rfl ?_
 refine W.pickF rfl rfl rfl (W.nil (At.thenCode ?_))
 first | refine C.condD rfl (fun c37 => ?_) (fun c37 => ?_) | refine C.cond rfl (fun c37 => ?_) (fun c37 => ?_)
 have hEE : batE x = 1 := by
   unfold batE; rw [if_neg hshort3, if_pos]
   first
   | exact Or.inl (by assumption)
   | exact Or.inr (Or.inl (by assumption))
   | (refine Or.inr (Or.inr ?_)
      by_cases h : wrongL x.lets
      exact h
      have : (x.lets.map (·.2.length)).all (· == sizeL x.lets) = true := hl3.2 fun p hp => by
        by_cases e : p.2.length = sizeL x.lets
        exact e
        exact absurd ⟨p, hp, e⟩ h
      simp_all)
 have hEB : batB x = [] := by unfold batB; rw [hEE]; rfl
 refine C.seq (C.region (W.assign rfl rfl (W.assign rfl rfl (W.nil (At.thenCode (C.ret (At.thenRet ?_)))))))
 refine At.ret2 Tryz.results36 rfl rfl ?_
 first
 | exact ⟨aR, cR, by rw [hEE]; rfl, hNR, hXl⟩
 | exact ⟨none, 0, by rw [hEB, hEE]; rfl, by rw [hEB]; exact NewB.nil _ _, hX1⟩
 | exact ⟨none, 0, by rw [hEB, hEE, hl1]; rfl, by rw [hEB]; exact NewB.nil _ _, hX1⟩
 | (have hEE : batE x = 1 := by
      unfold batE; rw [if_neg hshort3, if_pos]
      first
      | exact Or.inl (by omega)
      | exact Or.inr (Or.inl (by omega))
    have hEB : batB x = [] := by unfold batB; rw [hEE]; rfl
    exact ⟨none, 0, by rw [hEB, hEE]; rfl, by rw [hEB]; exact NewB.nil _ _, hX1⟩)
 have hallk : ∀ p ∈ x.lets, p.2.length = sizeL x.lets := hl3.1 (by rw [← hlA]; simpa using c37)
 have hr0 : 0 ≤ x.round := by omega
 have hc0 : 0 ≤ x.chain := by omega
 have hEE : batE x = 0 := by
   unfold batE; rw [if_neg hshort3, if_neg]
   rintro (h | h | ⟨p, hp, hq⟩)
   omega
   omega
   exact hq (hallk p hp)
 have hEB : batB x = be64 x.round.toNat ++ (be64 x.chain.toNat ++ (be64 x.inner.length ++ (putsL x.inner ++ (be64 x.lets.length ++ (be64 (sizeL x.lets) ++ encLets x.lets))))) := by unfold batB; rw [if_pos hEE]
 have hsz20 : sizeL x.lets ≤ 1048576 := by
   cases hq : x.lets with
   | nil => exact Nat.zero_le _
   | cons p r => exact hbox20 p (by rw [hq]; simp)
 refine C.skip (At.thenCode (C.seq (C.region ?_)))
 refine W.buildS (fs := _) [(0, 1)] [.slice none 0 0] [.slice none 0 0] Tryz.underlying120 (by kernel_rfl) (by kernel_rfl) rfl rfl rfl ?_
 refine W.box [.slice none 0 0] rfl rfl rfl ?_
 intro g39 w39 hg39 hX39 hB39
 have hX39a := hX1.ext hX39
 have hW39 : Wr w39 g39 w.heap.size [] := Wr.mk' (by have := hX1.size; omega) hB39
 have hB1a := hB1.ext hX39
 have hn39 : ¬ WS w39 g39 g1 := by
   rintro (rfl | ⟨q, h1, h2⟩)
   have := hB1.lt; omega
   obtain rfl := Bk.one hB39 h1; cases h2
 refine W.assign rfl rfl (W.nil (At.thenCode (C.seq (C.region (W.move rfl rfl (W.fieldB (off := 0) (size := 1) (t := 3) (Fld.of (by kernel_rfl)) rfl rfl rfl ?_))))))
 refine W.loadB rfl Tryz.underlying3 rfl (by assumption) rfl rfl ?_
 refine W.convIN (M := 18446744073709551616) rfl Tryz.underlying3 Tryz.underlying83 rfl rfl (by omega) rfl ?_
 refine W.eqv (v' := u64V x.round.toNat) (iV (by omega)) ?_
 refine W.fieldB (off := 1) (size := 1) (t := 3) (Fld.of (by kernel_rfl)) rfl rfl rfl ?_
 refine W.loadB rfl Tryz.underlying3 rfl (by assumption) rfl rfl ?_
 refine W.convIN (M := 18446744073709551616) rfl Tryz.underlying3 Tryz.underlying83 rfl rfl (by omega) rfl ?_
 refine W.eqv (v' := u64V x.chain.toNat) (iV (by omega)) ?_
 refine W.fieldB (off := 2) (size := 1) (t := 36) (Fld.of (by kernel_rfl)) rfl rfl rfl ?_
 refine W.loadB rfl Tryz.underlying36 rfl (by assumption) rfl rfl ?_
 refine W.lenS rfl Tryz.underlying36 rfl ?_
 refine W.convIN (M := 18446744073709551616) rfl Tryz.underlying3 Tryz.underlying83 rfl rfl (by omega) rfl ?_
 refine W.eqv (v' := u64V x.inner.length) (iV (by omega)) ?_
 refine W.litV ([x.round.toNat, x.chain.toNat, x.inner.length].map u64V) U64 Tryz.underlying36 rfl rfl (u64_oneCell _) rfl rfl rfl ?_
 intro g51 w51 hg51 hX51 _ hs51
 have hP51 := hW39.ext hX51
 refine W.call Tryz.call68 rfl (Cod.put_ok g39 _ _ 3 [x.round.toNat, x.chain.toNat, x.inner.length] _ _ hP51.wr hs51 (fun ad e _ hc => by obtain rfl := Option.some.inj e; exact hW39.fresh hX51 (k := g51) (by omega) hc) (by simp)) rfl ?_
 rintro v52 w52 ⟨rfl, hP52⟩
 have hX52 := hP52.old hP51.wr (Nat.le_refl _) (hX39a.ext hX51)
 have hn51 : ¬ WS w51 g39 g1 := fun hc => by
   rcases hP51.ws _ hc with h | h
   exact hn39 h
   have := hB1a.lt; omega
 have hB52 := hP52.bk (hB1a.ext hX51) hn51
 have hn52 : ¬ WS w52 g39 g1 := fun hc => by
   rcases hP52.ws _ hc with h | h
   exact hn51 h
   have := (hB1a.ext hX51).lt; omega
 refine W.nil (At.thenCode (C.seq (C.region (W.move rfl rfl (W.fieldB (off := 2) (size := 1) (t := 36) (Fld.of (by kernel_rfl)) rfl rfl rfl ?_)))))
 refine W.loadB rfl Tryz.underlying36 rfl (by assumption) rfl rfl ?_
 have hU52 : Us w52 aI cI x.inner := hU.ext hX52
 refine W.call Tryz.call68 rfl (Cod.put_ok g39 _ _ _ x.inner _ _ hP52.wr hU52 (fun ad e hne hc => by have h1 := (hP52.wr.lt hc).1; have h2 := hU.blk e (by simpa using hne); omega) (by simp [putsL, be64_length]; omega)) rfl ?_
 rintro v56 w56 ⟨rfl, hP56⟩
 have hX56 := hP56.old hP52.wr (Nat.le_refl _) hX52
 have hB56 := hP56.bk hB52 hn52
 have hn56 : ¬ WS w56 g39 g1 := fun hc => by
   rcases hP56.ws _ hc with h | h
   exact hn52 h
   have := hB52.lt; omega
 have hplI := putsL_length x.inner
 refine W.nil (At.thenCode (C.seq (C.region (W.move rfl rfl (W.fieldB (off := 3) (size := 1) (t := 37) (Fld.of (by kernel_rfl)) rfl rfl rfl ?_)))))
 refine W.loadB rfl Tryz.underlying37 rfl (by assumption) rfl rfl ?_
 refine W.lenS rfl Tryz.underlying37 rfl ?_
 refine W.convIN (M := 18446744073709551616) rfl Tryz.underlying3 Tryz.underlying83 rfl rfl (by omega) rfl ?_
 refine W.eqv (v' := u64V x.lets.length) (iV (by omega)) ?_
 refine W.move rfl rfl ?_
 refine W.convIN (M := 18446744073709551616) rfl Tryz.underlying3 Tryz.underlying83 rfl rfl (by omega) rfl ?_
 refine W.eqv (v' := u64V (sizeL x.lets)) (iV (by rw [hlF]; omega)) ?_
 refine W.litV ([x.lets.length, sizeL x.lets].map u64V) U64 Tryz.underlying36 rfl rfl (u64_oneCell _) rfl rfl rfl ?_
 intro g64 w64 hg64 hX64 _ hs64
 have hP64 := hP56.wr.ext hX64
 refine W.call Tryz.call68 rfl (Cod.put_ok g39 _ _ 2 [x.lets.length, sizeL x.lets] _ _ hP64.wr hs64 (fun ad e _ hc => by obtain rfl := Option.some.inj e; exact hP56.wr.fresh hX64 (k := g64) (by omega) hc) (by simp [putsL, be64_length]; omega)) rfl ?_
 rintro v65 w65 ⟨rfl, hP65⟩
 have hX65 := hP65.old hP64.wr (Nat.le_refl _) (hX56.ext hX64)
 have hn64 : ¬ WS w64 g39 g1 := fun hc => by
   rcases hP64.ws _ hc with h | h
   exact hn56 h
   have := hB56.lt; omega
 have hB65 := hP65.bk (hB56.ext hX64) hn64
 obtain ⟨pre, hpre⟩ : ∃ pre, pre = be64 x.round.toNat ++ (be64 x.chain.toNat ++ (be64 x.inner.length ++ (putsL x.inner ++ (be64 x.lets.length ++ be64 (sizeL x.lets))))) := ⟨_, rfl⟩
 have hprel : pre.length ≤ 200 := by rw [hpre]; simp only [List.length_append, be64_length]; omega
 have hEB2 : batB x = pre ++ encLets x.lets := by rw [hEB, hpre]; simp only [List.append_assoc]
 have hW65 : Wr w65 g39 w.heap.size pre := by
   have := hP65.wr
   rw [hpre]
   simpa [putsL] using this
 refine W.nil (At.thenCode (C.seq (C.seq (C.region (W.fieldB (off := 3) (size := 1) (t := 37) (Fld.of (by kernel_rfl)) rfl rfl rfl ?_)))))
 refine W.loadB rfl Tryz.underlying37 rfl (by assumption) rfl rfl ?_
 refine W.lenS rfl Tryz.underlying37 rfl (W.move rfl rfl (W.nil (At.thenCode (C.block ?_))))
 refine C.loop (X := Nat) (fun x_ => [(7, .pointer (some ⟨g39, 0, none⟩)), (67, .slice ao x.lets.length c), (68, .int .i64 (x.lets.length : Int)), (69, .int .i64 (x_ : Int))]) (fun x_ wl => x_ ≤ x.lets.length ∧ Ext w wl ∧ Wr wl g39 w.heap.size (pre ++ encLets (x.lets.take x_))) (fun x_ => x.lets.length - x_) (0) (sc rfl (sc rfl (sc rfl (sc rfl (Sub.nil))))) ?start1 ?_
 case start1 =>
   show (0) ≤ x.lets.length ∧ Ext w _ ∧ Wr _ g39 w.heap.size (pre ++ encLets (x.lets.take (0)))
   exact ⟨by omega, hX65, by simpa [encLets] using hW65⟩
 rintro i wl hI_
 replace hI_ : i ≤ x.lets.length ∧ Ext w wl ∧ Wr wl g39 w.heap.size (pre ++ encLets (x.lets.take i)) := hI_
 obtain ⟨hi, hXl, hWl⟩ := hI_
 refine C.weaken (l' := [(7, .pointer (some ⟨g39, 0, none⟩)), (67, .slice ao x.lets.length c), (68, .int .i64 (x.lets.length : Int)), (69, .int .i64 (i : Int))]) (sc rfl (sc rfl (sc rfl (sc rfl (Sub.nil))))) ?_
 refine C.seq (C.region (W.lssI rfl rfl rfl (W.nil (At.thenCode (C.seq ?_)))))
 refine C.condD rfl (fun c70 => ?_) (fun c70 => ?_)
 have hlt : i < x.lets.length := by omega
 have hEl := hEb.ext rLet hXl
 have hmem : x.lets[i] ∈ x.lets := List.getElem_mem hlt
 have hlen1 : (encLets (x.lets.take i)).length ≤ 1000 * (32 + 1048576) := by
   have := encLets_le (l := x.lets.take i) (m := 1048576) (fun p hp => ⟨hbox20 p (List.mem_of_mem_take hp), hol p (List.mem_of_mem_take hp)⟩)
   have h2 : (x.lets.take i).length ≤ 1000 := by rw [List.length_take]; omega
   exact Nat.le_trans this (Nat.mul_le_mul_right (32 + 1048576) h2)
 have hlen2 : 1000 * (32 + 1048576) = 1048608000 := by decide
 rw [hlen2] at hlen1
 have hto := hol _ hmem
 refine C.skip (At.thenCode (C.seq (C.block (C.seq (C.region ?_)))))
 refine W.indexE ELet Tryz.underlying37 rfl hEl rfl hlt rfl ?_
 rintro ad71 cs71 hc71 ⟨v71, rfl, hR71, hx71⟩ hl71
 obtain ⟨a71, c71, rfl, hs71, _⟩ := hR71.form
 refine W.loadA rfl hc71 Tryz.underlying58 rfl (by rw [hl71]; kernel_rfl) rfl ?_
 refine W.alloc (z := .agg (List.replicate 32 (byteV 0) ++ [Value.slice none 0 0]).toArray) (List.replicate 32 (byteV 0) ++ [Value.slice none 0 0]) (by kernel_rfl) rfl rfl ?_
 intro g9 w9 hg9 hX9 hB9
 refine W.storeA (x.lets[i].1.map byteV ++ [.slice a71 x.lets[i].2.length c71]) rfl rfl hB9 (by rw [hl71]; rfl) (by rw [hl71]; kernel_rfl) (by intro u hu; rcases List.mem_append.1 hu with h | h; exact bytes_oneCell _ u h; obtain rfl := List.mem_singleton.1 h; rfl) ?_
 intro w10 hc10 hB10
 have hXl10 : Ext wl w10 := hX9.news hc10 fun k hk => Or.inr (by omega)
 have hP10 := hWl.ext hXl10
 have hX10 := hXl.ext hXl10
 have hn9 : ¬ WS w10 g39 g9 := hWl.fresh hXl10 (by omega)
 refine W.nil (At.thenCode (C.seq (C.region (W.move rfl rfl (W.fieldB (off := 0) (size := 32) (t := 43) (Fld.of (by kernel_rfl)) rfl rfl rfl ?_)))))
 refine W.sliceA X8 Tryz.underlying43 rfl rfl ?_
 have hs76 : Bs w10 (some ⟨g9, 0, none⟩) 32 x.lets[i].1 := by
   have := Bk.bs (o := 0) (xs := x.lets[i].1) hB10 (by rw [List.drop_zero, List.take_append_of_le_length (by simp), List.take_of_length_le (by simp)])
   rwa [hto] at this
 have hby := Cod.bytes_ok g39 _ (some ⟨g9, 0, none⟩) 32 x.lets[i].1 _ _ hP10.wr hs76 (by simp; omega)
 rw [hto] at hby
 refine W.call Tryz.call69 rfl hby rfl ?_
 rintro v76 w76 ⟨rfl, hP76⟩
 have hX76 := hP76.old hP10.wr (Nat.le_refl _) hX10
 have hB76 := hP76.bk hB10 hn9
 refine W.nil (At.thenCode (C.region (W.move rfl rfl (W.fieldB (off := 32) (size := 1) (t := 22) (Fld.of (by kernel_rfl)) rfl rfl rfl ?_))))
 refine W.loadB (v := .slice a71 x.lets[i].2.length c71) rfl Tryz.underlying22 rfl hB76 (by rw [List.getElem?_append_right (by rw [List.length_map, hto]; decide), List.length_map, hto]; rfl) rfl ?_
 have hR76 := rByt.chg hR71 ((hXl10.mono fun k hk => hk.elim).trans (hP76.chgB hP10.wr))
 obtain ⟨a51, c51, e51, hs51', _⟩ := hR76.form
 obtain ⟨rfl, rfl⟩ : a71 = a51 ∧ c71 = c51 := by injection e51 with h1 _ h3; exact ⟨h1, h3⟩
 refine W.call Tryz.call69 rfl (Cod.bytes_ok g39 _ _ _ x.lets[i].2 _ _ hP76.wr hs51' (by simp; have := hbox20 _ hmem; omega)) rfl ?_
 rintro v80 w80 ⟨rfl, hP80⟩
 refine W.nil (At.blockNormal (At.thenCode (C.region ?_)))
 refine W.addI rfl rfl (by omega) rfl ?_
 refine W.move rfl rfl (W.nil ?_)
 refine At.thenRound (i + 1) (sc rfl (sc rfl (sc rfl (sc (look_eq rfl (iV (by omega))) (Sub.nil))))) (show (i + 1) ≤ x.lets.length ∧ Ext w _ ∧ Wr _ g39 w.heap.size (pre ++ encLets (x.lets.take (i + 1))) from ?_) (show x.lets.length - (i + 1) < x.lets.length - i from ?_)
 refine ⟨by omega, hP80.old hP76.wr (Nat.le_refl _) hX76, ?_⟩
 rw [encLets_take hlt]
 have := hP80.wr
 simpa using this
 omega
 obtain rfl : i = x.lets.length := by omega
 rw [List.take_length, ← hEB2] at hWl
 obtain ⟨aR, cR, hBR, hNR⟩ := wr_end hWl (Nat.le_refl w.heap.size)
 refine C.exit (At.thenExit (At.thenExit (At.blockSelf (At.thenCode (C.seq (C.region (W.move rfl rfl (W.nilCheck rfl rfl (W.fieldB (off := 0) (size := 1) (t := 22) (Fld.of (by kernel_rfl)) rfl rfl rfl ?_)))))))))
 refine W.loadB rfl Tryz.underlying22 rfl (by assumption) rfl rfl ?_
 refine W.assign rfl rfl (W.assign rfl rfl (W.nil (At.thenCode (C.ret ?_))))
 refine At.ret2 Tryz.results36 rfl rfl ?_
 first
 | exact ⟨aR, cR, by rw [hEE]; rfl, hNR, hXl⟩
 | exact ⟨none, 0, by rw [hEB, hEE]; rfl, by rw [hEB]; exact NewB.nil _ _, hX1⟩
 | exact ⟨none, 0, by rw [hEB, hEE, hl1]; rfl, by rw [hEB]; exact NewB.nil _ _, hX1⟩
 | (have hEE : batE x = 1 := by
      unfold batE; rw [if_neg hshort3, if_pos]
      first
      | exact Or.inl (by omega)
      | exact Or.inr (Or.inl (by omega))
    have hEB : batB x = [] := by unfold batB; rw [hEE]; rfl
    exact ⟨none, 0, by rw [hEB, hEE]; rfl, by rw [hEB]; exact NewB.nil _ _, hX1⟩)
end Go.Proofs.YthiijdbiikljpaaGreat.Cod
namespace Go.Proofs.YthiijdbiikljpaaGreat.Disk
open Go Go.RowKit Go.Proofs.YthiijdbiikljpaaGreat.KW Go.Proofs.YthiijdbiikljpaaGreat.Words
set_option linter.unusedVariables false
set_option linter.unusedSimpArgs false
set_option maxRecDepth 100000
theorem max0 {a b : Int} (h : max 0 a = b) (h0 : 0 ≤ a) : a = b := by omega
theorem Append_ok (F : Nat → Prop) (g : Nat) (rv : Int) (D : Dsk) (ap : Option Addr) (cp : Nat) (b : List UInt8) (w : World) (hD : Dk w F g rv D) (hrv : 0 ≤ rv) (hB : Bs w ap cp b) (hap : ∀ ad, ap = some ad → b ≠ [] → ¬ F ad.block) (hl : D.bs.length + b.length ≤ 10000000000) : Ct Tryz.prog 7 #[.pointer (some ⟨g, 0, none⟩), .slice ap b.length cp] w (fun v w' => v = .int .i64 (appE D b : Int) ∧ Dk w' (Grown F w w') g rv (appD D b) ∧ Chg F w w') := by
 refine Ct.enter [(0, .pointer (some ⟨g, 0, none⟩)), (1, .slice ap b.length cp)] Tryz.func7 rfl rfl rfl rfl ?_
 have hroom := max0 hD.room hrv
 have hfits := hD.ok.fits
 have hrvb := hD.rvb
 have hsml := hD.ok.small
 refine C.seq (C.region (W.assign rfl rfl (W.nil (At.thenCode (C.seq (C.seq ?_))))))
 by_cases hf : failB D = true
 refine C.regionAnyB (fun k b => k = 1 ∧ b = g) 17 (E_ (.pointer (some ⟨g, 0, none⟩)) :: (fun v w => v = .bool true ∧ Dk w F g rv (failD D)) :: E_ (.bool true) :: E_ (undef) :: E_ (undef) :: E_ (undef) :: E_ (undef) :: E_ (undef) :: E_ (undef) :: E_ (undef) :: E_ (undef) :: E_ (undef) :: E_ (undef) :: E_ (undef) :: E_ (undef) :: E_ (undef) :: E_ (.bool true) :: []) [(0, .pointer (some ⟨g, 0, none⟩)), (1, .slice ap b.length cp)] [] (sc rfl (sc rfl (Sub.nil))) (Sub.nil) (sc rfl (sc rfl (Sub.nil))) (by kernel_rfl) rfl rfl rfl (sN (sM (fun _ _ _ ⟨hv, h⟩ g => ⟨hv, h.ext (FamPost.ext g (fun k q h1 h2 h3 => h1 h3.1))⟩) (sN (sN (sN (sN (sN (sN (sN (sN (sN (sN (sN (sN (sN (sN (sN (trivial)))))))))))))))))) ?_ ?_
 refine And.intro ?_ ?_
 intro L_ w4 hX_ hs_ hf_ hd_
 exact W.s1 (hs_ 0 _ rfl) (W.move rfl rfl (W.eF rfl))
 refine And.intro ?_ ?_
 intro L_ w4 hX_ hs_ hf_ hd_
 obtain ⟨_, e0, rfl⟩ := hd_ 0 rfl
 refine W.s1 (e0 _ rfl) ?_
 refine W.call Tryz.call26 rfl (Disk.failing_ok F g rv D _ (hD.ext (FamPre.ext hX_ (fun k q h1 h2 h3 => h1 h3.1)))) rfl ?_
 rintro v6 w6 ⟨rfl, hD6, hc6⟩
 refine W.nil ?_
 exact At.stepF (Fam.of 1 (hc6.mono fun k hk => ⟨rfl, hk⟩)) ⟨by rw [hf], hD6⟩
 refine And.intro ?_ ?_
 intro L_ w4 hX_ hs_ hf_ hd_
 obtain ⟨v1, e1, r1⟩ := hd_ 1 rfl
 obtain ⟨rfl, hD1⟩ := r1
 exact W.s1 (e1 _ rfl) (W.move rfl rfl (W.eF rfl))
 refine And.intro ?_ ?_
 intro L_ w4 hX_ hs_ hf_ hd_
 obtain ⟨_, e2, rfl⟩ := hd_ 2 rfl
 exact W.s1 (e2 _ rfl) (W.skips rfl rfl rfl rfl rfl rfl (W.eF rfl))
 refine And.intro ?_ ?_
 intro L_ w4 hX_ hs_ hf_ hd_
 obtain ⟨_, e2, rfl⟩ := hd_ 2 rfl
 exact W.s1 (e2 _ rfl) (W.skips rfl rfl rfl rfl rfl rfl (W.eF rfl))
 refine And.intro ?_ ?_
 intro L_ w4 hX_ hs_ hf_ hd_
 obtain ⟨_, e2, rfl⟩ := hd_ 2 rfl
 exact W.s1 (e2 _ rfl) (W.skips rfl rfl rfl rfl rfl rfl (W.eF rfl))
 refine And.intro ?_ ?_
 intro L_ w4 hX_ hs_ hf_ hd_
 obtain ⟨_, e2, rfl⟩ := hd_ 2 rfl
 exact W.s1 (e2 _ rfl) (W.skips rfl rfl rfl rfl rfl rfl (W.eF rfl))
 refine And.intro ?_ ?_
 intro L_ w4 hX_ hs_ hf_ hd_
 obtain ⟨_, e2, rfl⟩ := hd_ 2 rfl
 exact W.s1 (e2 _ rfl) (W.skips rfl rfl rfl rfl rfl rfl (W.eF rfl))
 refine And.intro ?_ ?_
 intro L_ w4 hX_ hs_ hf_ hd_
 obtain ⟨_, e2, rfl⟩ := hd_ 2 rfl
 exact W.s1 (e2 _ rfl) (W.skips rfl rfl rfl rfl rfl rfl (W.eF rfl))
 refine And.intro ?_ ?_
 intro L_ w4 hX_ hs_ hf_ hd_
 obtain ⟨_, e2, rfl⟩ := hd_ 2 rfl
 exact W.s1 (e2 _ rfl) (W.skips rfl rfl rfl rfl rfl rfl (W.eF rfl))
 refine And.intro ?_ ?_
 intro L_ w4 hX_ hs_ hf_ hd_
 obtain ⟨_, e2, rfl⟩ := hd_ 2 rfl
 exact W.s1 (e2 _ rfl) (W.skips rfl rfl rfl rfl rfl rfl (W.eF rfl))
 refine And.intro ?_ ?_
 intro L_ w4 hX_ hs_ hf_ hd_
 obtain ⟨_, e2, rfl⟩ := hd_ 2 rfl
 exact W.s1 (e2 _ rfl) (W.skips rfl rfl rfl rfl rfl rfl (W.eF rfl))
 refine And.intro ?_ ?_
 intro L_ w4 hX_ hs_ hf_ hd_
 obtain ⟨_, e2, rfl⟩ := hd_ 2 rfl
 exact W.s1 (e2 _ rfl) (W.skips rfl rfl rfl rfl rfl rfl (W.eF rfl))
 refine And.intro ?_ ?_
 intro L_ w4 hX_ hs_ hf_ hd_
 obtain ⟨_, e2, rfl⟩ := hd_ 2 rfl
 exact W.s1 (e2 _ rfl) (W.skips rfl rfl rfl rfl rfl rfl (W.eF rfl))
 refine And.intro ?_ ?_
 intro L_ w4 hX_ hs_ hf_ hd_
 obtain ⟨_, e2, rfl⟩ := hd_ 2 rfl
 exact W.s1 (e2 _ rfl) (W.skips rfl rfl rfl rfl rfl rfl (W.eF rfl))
 refine And.intro ?_ ?_
 intro L_ w4 hX_ hs_ hf_ hd_
 obtain ⟨_, e2, rfl⟩ := hd_ 2 rfl
 exact W.s1 (e2 _ rfl) (W.skips rfl rfl rfl rfl rfl rfl (W.eF rfl))
 refine And.intro ?_ ?_
 intro L_ w4 hX_ hs_ hf_ hd_
 obtain ⟨_, e2, rfl⟩ := hd_ 2 rfl
 obtain ⟨v15, e15, r15⟩ := hd_ 15 rfl
 obtain rfl : (undef : Value) = v15 := Eq.symm r15
 exact W.s2 (e2 _ rfl) (e15 _ rfl) (W.pickT rfl rfl rfl (W.eF rfl))
 exact trivial
 intro L_ w4 hX1 hs_ hv_
 obtain ⟨v1, e1, r1⟩ := hv_ 1 (by decide)
 obtain ⟨rfl, hD1⟩ := r1
 obtain ⟨_, e16, rfl⟩ := hv_ 16 (by decide)
 refine W.weaken (l' := [(6, _), (21, _), (0, _), (1, _)]) (sc (e1 _ rfl) (sc (e16 _ rfl) (sc (hs_ _ _ rfl) (sc (hs_ _ _ rfl) (Sub.nil))))) ?_
 refine W.nil (At.thenCode ?_)
 refine C.condT rfl ?_
 refine C.seq (C.region (W.assign rfl rfl (W.nil (At.thenCode (C.ret (At.thenRet ?_))))))
 refine At.ret1 Tryz.results7 rfl ?_
 have hc4 : Chg (fun k => k = g) w w4 := hX1.mono fun q ⟨k, hk⟩ => hk.2
 have hcF : Chg F w w4 := hc4.mono fun k hk => by rw [hk]; exact hD.own
 have hbad : failB D = true ∨ Full D b.length := .inl hf
 have happ : appD D b = failD D := by unfold appD; rw [if_pos hbad]; rfl
 exact ⟨by unfold appE; rw [if_pos hbad]; rfl, by rw [happ]; exact hD1.grow (fun k hk => .inl hk) (Grown.lt hD.lt hc4.size), hcF⟩
 refine C.regionAnyB (fun k b => k = 1 ∧ b = g) 17 (E_ (.pointer (some ⟨g, 0, none⟩)) :: (fun v w => v = .bool false ∧ Dk w F g rv (failD D)) :: (fun v w => v = .bool false ∧ Dk w F g rv (failD D)) :: E_ (.slice ap b.length cp) :: E_ (.int .i64 (b.length : Int)) :: E_ (.pointer (some ⟨g, 0, none⟩)) :: E_ (.pointer (some ⟨g, 0, none⟩)) :: E_ (.pointer (some ⟨g, 0, none⟩)) :: E_ (.int .i64 rv) :: E_ (.pointer (some ⟨g, 0, none⟩)) :: E_ (.pointer (some ⟨g, 0, none⟩)) :: E_ (.pointer (some ⟨g, 1, none⟩)) :: (fun v w => ∃ ao c, v = .slice ao D.bs.length c) :: E_ (.int .i64 (D.bs.length : Int)) :: E_ (.int .i64 (rv - (D.bs.length : Int))) :: E_ (.bool (decide (rv - (D.bs.length : Int) < (b.length : Int)))) :: E_ (.bool (decide (rv - (D.bs.length : Int) < (b.length : Int)))) :: []) [(0, .pointer (some ⟨g, 0, none⟩)), (1, .slice ap b.length cp)] [] (sc rfl (sc rfl (Sub.nil))) (Sub.nil) (sc rfl (sc rfl (Sub.nil))) (by kernel_rfl) rfl rfl rfl (sN (sM (fun _ _ _ ⟨hv, h⟩ g => ⟨hv, h.ext (FamPost.ext g (fun k q h1 h2 h3 => h1 h3.1))⟩) (sM (fun _ _ _ ⟨hv, h⟩ g => ⟨hv, h.ext (FamPost.ext g (fun k q h1 h2 h3 => dT_absurd h2 (by rw [h3.1]; kernel_rfl)))⟩) (sN (sN (sN (sN (sN (sN (sN (sN (sN (sM (fun _ _ _ h _ => h) (sN (sN (sN (sN (trivial)))))))))))))))))) ?_ ?_
 refine And.intro ?_ ?_
 intro L_ w4 hX_ hs_ hf_ hd_
 exact W.s1 (hs_ 0 _ rfl) (W.move rfl rfl (W.eF rfl))
 refine And.intro ?_ ?_
 intro L_ w4 hX_ hs_ hf_ hd_
 obtain ⟨_, e0, rfl⟩ := hd_ 0 rfl
 refine W.s1 (e0 _ rfl) ?_
 refine W.call Tryz.call26 rfl (Disk.failing_ok F g rv D _ (hD.ext (FamPre.ext hX_ (fun k q h1 h2 h3 => h1 h3.1)))) rfl ?_
 rintro v6 w6 ⟨rfl, hD6, hc6⟩
 refine W.nil ?_
 exact At.stepF (Fam.of 1 (hc6.mono fun k hk => ⟨rfl, hk⟩)) ⟨by simpa using hf, hD6⟩
 refine And.intro ?_ ?_
 intro L_ w4 hX_ hs_ hf_ hd_
 obtain ⟨v1, e1, r1⟩ := hd_ 1 rfl
 obtain ⟨rfl, hD1⟩ := r1
 refine W.s1 (e1 _ rfl) (W.move rfl rfl (W.nil ?_))
 exact At.stepF (Fam.ofExt (Ext.refl _)) ⟨rfl, hD1⟩
 refine And.intro ?_ ?_
 intro L_ w4 hX_ hs_ hf_ hd_
 obtain ⟨v2, e2, r2⟩ := hd_ 2 rfl
 obtain ⟨rfl, hD2⟩ := r2
 exact W.s2 (hs_ 1 _ rfl) (e2 _ rfl) (W.wants rfl rfl rfl rfl (W.move rfl rfl (W.eF rfl)))
 refine And.intro ?_ ?_
 intro L_ w4 hX_ hs_ hf_ hd_
 obtain ⟨_, e3, rfl⟩ := hd_ 3 rfl
 obtain ⟨v2, e2, r2⟩ := hd_ 2 rfl
 obtain ⟨rfl, hD2⟩ := r2
 exact W.s2 (e3 _ rfl) (e2 _ rfl) (W.wants rfl rfl rfl rfl (W.lenS rfl Tryz.underlying22 rfl (W.eF rfl)))
 refine And.intro ?_ ?_
 intro L_ w4 hX_ hs_ hf_ hd_
 obtain ⟨v2, e2, r2⟩ := hd_ 2 rfl
 obtain ⟨rfl, hD2⟩ := r2
 exact W.s2 (hs_ 0 _ rfl) (e2 _ rfl) (W.wants rfl rfl rfl rfl (W.move rfl rfl (W.eF rfl)))
 refine And.intro ?_ ?_
 intro L_ w4 hX_ hs_ hf_ hd_
 obtain ⟨_, e5, rfl⟩ := hd_ 5 rfl
 obtain ⟨v2, e2, r2⟩ := hd_ 2 rfl
 obtain ⟨rfl, hD2⟩ := r2
 exact W.s2 (e5 _ rfl) (e2 _ rfl) (W.wants rfl rfl rfl rfl (W.nilCheck rfl rfl (W.eF rfl)))
 refine And.intro ?_ ?_
 intro L_ w4 hX_ hs_ hf_ hd_
 obtain ⟨_, e6, rfl⟩ := hd_ 6 rfl
 obtain ⟨v2, e2, r2⟩ := hd_ 2 rfl
 obtain ⟨rfl, hD2⟩ := r2
 exact W.s2 (e6 _ rfl) (e2 _ rfl) (W.wants rfl rfl rfl rfl (W.fieldB (off := 0) (size := 1) (t := 3) (Fld.of (by kernel_rfl)) rfl rfl rfl (W.eF rfl)))
 refine And.intro ?_ ?_
 intro L_ w4 hX_ hs_ hf_ hd_
 obtain ⟨_, e7, rfl⟩ := hd_ 7 rfl
 obtain ⟨v2, e2, r2⟩ := hd_ 2 rfl
 obtain ⟨rfl, hD2⟩ := r2
 refine W.s2 (e7 _ rfl) (e2 _ rfl) (W.wants rfl rfl rfl rfl ?_)
 obtain ⟨bo, cb, fo, cf, h1, h2, h3, h4, h5⟩ := hD2.out
 refine W.loadB rfl Tryz.underlying3 rfl h1 rfl rfl ?_
 exact W.eF rfl
 refine And.intro ?_ ?_
 intro L_ w4 hX_ hs_ hf_ hd_
 obtain ⟨v2, e2, r2⟩ := hd_ 2 rfl
 obtain ⟨rfl, hD2⟩ := r2
 exact W.s2 (hs_ 0 _ rfl) (e2 _ rfl) (W.wants rfl rfl rfl rfl (W.move rfl rfl (W.eF rfl)))
 refine And.intro ?_ ?_
 intro L_ w4 hX_ hs_ hf_ hd_
 obtain ⟨_, e9, rfl⟩ := hd_ 9 rfl
 obtain ⟨v2, e2, r2⟩ := hd_ 2 rfl
 obtain ⟨rfl, hD2⟩ := r2
 exact W.s2 (e9 _ rfl) (e2 _ rfl) (W.wants rfl rfl rfl rfl (W.nilCheck rfl rfl (W.eF rfl)))
 refine And.intro ?_ ?_
 intro L_ w4 hX_ hs_ hf_ hd_
 obtain ⟨_, e10, rfl⟩ := hd_ 10 rfl
 obtain ⟨v2, e2, r2⟩ := hd_ 2 rfl
 obtain ⟨rfl, hD2⟩ := r2
 exact W.s2 (e10 _ rfl) (e2 _ rfl) (W.wants rfl rfl rfl rfl (W.fieldB (off := 1) (size := 1) (t := 22) (Fld.of (by kernel_rfl)) rfl rfl rfl (W.eF rfl)))
 refine And.intro ?_ ?_
 intro L_ w4 hX_ hs_ hf_ hd_
 obtain ⟨_, e11, rfl⟩ := hd_ 11 rfl
 obtain ⟨v2, e2, r2⟩ := hd_ 2 rfl
 obtain ⟨rfl, hD2⟩ := r2
 refine W.s2 (e11 _ rfl) (e2 _ rfl) (W.wants rfl rfl rfl rfl ?_)
 obtain ⟨bo, cb, fo, cf, h1, h2, h3, h4, h5⟩ := hD2.out
 refine W.loadB rfl Tryz.underlying22 rfl h1 rfl rfl ?_
 refine W.nil ?_
 exact At.stepF (Fam.ofExt (Ext.refl _)) ⟨_, _, rfl⟩
 refine And.intro ?_ ?_
 intro L_ w4 hX_ hs_ hf_ hd_
 obtain ⟨v12, e12, r12⟩ := hd_ 12 rfl
 obtain ⟨ao12, c12, rfl⟩ := r12
 obtain ⟨v2, e2, r2⟩ := hd_ 2 rfl
 obtain ⟨rfl, hD2⟩ := r2
 exact W.s2 (e12 _ rfl) (e2 _ rfl) (W.wants rfl rfl rfl rfl (W.lenS rfl Tryz.underlying22 rfl (W.eF rfl)))
 refine And.intro ?_ ?_
 intro L_ w4 hX_ hs_ hf_ hd_
 obtain ⟨_, e8, rfl⟩ := hd_ 8 rfl
 obtain ⟨_, e13, rfl⟩ := hd_ 13 rfl
 obtain ⟨v2, e2, r2⟩ := hd_ 2 rfl
 obtain ⟨rfl, hD2⟩ := r2
 refine W.s3 (e8 _ rfl) (e13 _ rfl) (e2 _ rfl) (W.wants rfl rfl rfl rfl ?_)
 refine W.subI rfl rfl (by omega) rfl ?_
 exact W.eF rfl
 refine And.intro ?_ ?_
 intro L_ w4 hX_ hs_ hf_ hd_
 obtain ⟨_, e4, rfl⟩ := hd_ 4 rfl
 obtain ⟨_, e14, rfl⟩ := hd_ 14 rfl
 obtain ⟨v2, e2, r2⟩ := hd_ 2 rfl
 obtain ⟨rfl, hD2⟩ := r2
 exact W.s3 (e4 _ rfl) (e14 _ rfl) (e2 _ rfl) (W.wants rfl rfl rfl rfl (W.gtrI rfl rfl rfl (W.eF rfl)))
 refine And.intro ?_ ?_
 intro L_ w4 hX_ hs_ hf_ hd_
 obtain ⟨v2, e2, r2⟩ := hd_ 2 rfl
 obtain ⟨rfl, hD2⟩ := r2
 obtain ⟨_, e15, rfl⟩ := hd_ 15 rfl
 exact W.s2 (e2 _ rfl) (e15 _ rfl) (W.pickF rfl rfl rfl (W.eF rfl))
 exact trivial
 intro L_ w4 hX1 hs_ hv_
 obtain ⟨v1, e1, r1⟩ := hv_ 1 (by decide)
 obtain ⟨rfl, hD1⟩ := r1
 obtain ⟨_, e16, rfl⟩ := hv_ 16 (by decide)
 refine W.weaken (l' := [(6, _), (21, _), (0, _), (1, _)]) (sc (e1 _ rfl) (sc (e16 _ rfl) (sc (hs_ _ _ rfl) (sc (hs_ _ _ rfl) (Sub.nil))))) ?_
 refine W.nil (At.thenCode ?_)
 refine C.condD rfl (fun c21 => ?_) (fun c21 => ?_)
 refine C.seq (C.region (W.assign rfl rfl (W.nil (At.thenCode (C.ret (At.thenRet ?_))))))
 refine At.ret1 Tryz.results7 rfl ?_
 have hc4 : Chg (fun k => k = g) w w4 := hX1.mono fun q ⟨k, hk⟩ => hk.2
 have hcF : Chg F w w4 := hc4.mono fun k hk => by rw [hk]; exact hD.own
 have hbad : failB D = true ∨ Full D b.length := .inr (by unfold Full; omega)
 have happ : appD D b = failD D := by unfold appD; rw [if_pos hbad]; rfl
 exact ⟨by unfold appE; rw [if_pos hbad]; rfl, by rw [happ]; exact hD1.grow (fun k hk => .inl hk) (Grown.lt hD.lt hc4.size), hcF⟩
 have hc4 : Chg (fun k => k = g) w w4 := hX1.mono fun q ⟨k, hk⟩ => hk.2
 have hcF : Chg F w w4 := hc4.mono fun k hk => by rw [hk]; exact hD.own
 have hgood0 : ¬ (failB D = true ∨ Full D b.length) := fun h => h.elim hf (fun h => by unfold Full at h; omega)
 obtain ⟨bo, cb, fo, cf, h1, h2, h3, h4, h5⟩ := hD1.out
 have h1 : Bk w4 g [.int .i64 rv, .slice bo D.bs.length cb, .int .i64 (D.syn : Int), .slice fo D.fails.tail.length cf] := h1
 have h2 : Ow w4 0 5 (.slice bo D.bs.length cb) D.bs := h2
 have h3 : Zs w4 fo cf D.fails.tail := h3
 have hs4 := hc4.size
 have hlo := ow_lt h2
 have hB4 : Bs w4 ap cp b := Sl.chg hB hc4 (fun ad e hne hk => hap ad e (fun h => hne (by rw [h]; rfl)) (by rw [hk]; exact hD.own))
 refine C.skip (At.thenCode (C.seq (C.region (W.move rfl rfl (W.move rfl rfl (W.nilCheck rfl rfl (W.fieldB (off := 1) (size := 1) (t := 22) (Fld.of (by kernel_rfl)) rfl rfl rfl ?_)))))))
 refine W.loadB rfl Tryz.underlying22 rfl (by assumption) rfl rfl ?_
 refine W.move rfl rfl ?_
 refine W.appendB E8 Tryz.underlying22 rfl rfl h2 hB4 (by omega) (Nat.zero_le _) rfl ?_
 intro vA wA hoA hgA hnA
 obtain ⟨aoA, cA, rfl, _, _⟩ := ownsRow_form hoA
 have hcAp : Chg (fun k => some k = (Value.slice bo D.bs.length cb).ownBlock ∨ w4.heap.size ≤ k) w4 wA := (Chg.of_grown hgA).mono fun k hk => .inl hk
 have hnewA : ∀ ad, aoA = some ad → (∃ a, bo = some a ∧ ad.block = a.block) ∨ w.heap.size ≤ ad.block := fun ad e => by
   have hown : (Value.slice aoA (D.bs ++ b).length cA).ownBlock = some ad.block := by rw [e]; rfl
   rcases hnA with h | ⟨k, h, hk⟩
   rw [h] at hown
   obtain ⟨a, e1, e2⟩ := slice_own hown
   exact .inl ⟨a, e1, e2.symm⟩
   rw [h] at hown
   obtain rfl := Option.some.inj hown
   exact .inr (by omega)
 have hsA : w.heap.size ≤ wA.heap.size := by have := hcAp.size; omega
 have hcA0 : Chg F w wA := hcF.news hcAp (fun k hk => by
   rcases hk with hk | hk
   obtain ⟨ad, e1, e2⟩ := slice_own hk.symm
   exact .inl (by rw [← e2]; exact (h4 ad e1).1)
   exact .inr (by omega))
 have h1A := h1.chg hcAp (fun hk => by
   rcases hk with hk | hk
   obtain ⟨ad, e1, e2⟩ := slice_own hk.symm
   exact (h4 ad e1).2 e2
   have := hD.lt g hD.own; omega)
 have hZA : Zs wA fo cf D.fails.tail := Sl.chg h3 hcAp (fun ad e hne hk => by
   have hq := h5 ad e (fun h => hne (by rw [show D.fails.tail = [] from h]; rfl))
   rcases hk with hk | hk
   obtain ⟨ad', e1, e2⟩ := slice_own hk.symm
   exact hq.2.2 ad' e1 e2.symm
   have := hD.lt _ hq.1; omega)
 refine W.nilCheck rfl rfl (W.fieldB (off := 1) (size := 1) (t := 22) (Fld.of (by kernel_rfl)) rfl rfl rfl ?_)
 refine W.store1 rfl rfl rfl h1A (by simp) (by kernel_rfl) ?_
 intro w9 hc9 hB9
 have hc9F : Chg F wA w9 := hc9.mono fun k hk => by rw [hk]; exact hD.own
 have hcA := hcA0.trans hc9F
 have h5A : ∀ ad, fo = some ad → D.fails.tail ≠ [] → Grown F w wA ad.block ∧ ad.block ≠ g ∧ ∀ ad', aoA = some ad' → ad.block ≠ ad'.block := fun ad e hne => by
   have hq := h5 ad e hne
   refine ⟨.inl hq.1, hq.2.1, fun ad' e' => ?_⟩
   rcases hnewA ad' e' with ⟨a, ha, hb⟩ | hb
   rw [hb]; exact hq.2.2 a ha
   have := hD.lt _ hq.1; omega
 have h4A : ∀ ad, aoA = some ad → Grown F w wA ad.block ∧ ad.block ≠ g := fun ad e => by
   have hltA := ow_lt hoA ad e
   rcases hnewA ad e with ⟨a, ha, hb⟩ | hb
   rw [hb]; exact ⟨.inl (h4 a ha).1, (h4 a ha).2⟩
   exact ⟨.inr ⟨hb, hltA⟩, fun c => by have := hD.lt g hD.own; omega⟩
 refine W.nil (At.thenCode (C.seq (C.region (W.assign rfl rfl (W.nil (At.thenCode (C.ret ?_)))))))
 refine At.ret1 Tryz.results7 rfl ?_
 first
 | exact ⟨by unfold appE; rw [if_pos hbad]; rfl, by rw [happ]; exact hD1.grow (fun k hk => .inl hk) (Grown.lt hD.lt hc4.size), hcF⟩
 | (have hgood : ¬ (failB D = true ∨ Full D b.length) := hgood0
    have hap2 : appD D b = ⟨D.room, D.bs ++ b, D.syn, D.fails.tail⟩ := by unfold appD; rw [if_neg hgood]
    have hok := appD_ok hD.ok (b := b) (by omega)
    rw [hap2] at hok
    refine ⟨by unfold appE; rw [if_neg hgood]; rfl, ?_, hcA⟩
    rw [hap2]
    exact Dk.rebuild (D := ⟨D.room, D.bs ++ b, D.syn, D.fails.tail⟩) hD.own hD.lt hsA hB9 hoA hZA hc9 h4A h5A hok hD.room hD.rvb)
section
variable {P : Program} {N : Nat} {Q : Exit → Act → World → Prop} {l : Env} {w : World} {ops : Array Oper} {rest : List Oper} {d : Tmp} {ty : TypeId} {pos : String} {aft : Array Edge}
theorem W.sliceO {x oh : Operand} {t e c base k : Nat} {z : Value} {bytes : Nat} {kk : IntKind} {bo : Option Addr} {xs : List UInt8} (hE : Elem P e 1 bytes z) (hT : P.underlying t = some (.slice e)) (hx : ev l x = some (.slice bo xs.length c)) (ho : Ow w base 5 (.slice bo xs.length c) xs)
   (hh : ev l oh = some (.int kk (k : Int))) (hk : k ≤ xs.length) (hN : Nat.blt d N = true)
   (next : ∀ bo', Ow w base 5 (.slice bo' (xs.take k).length c) (xs.take k) → (∀ ad, bo' = some ad → ∃ a, bo = some a ∧ ad.block = a.block) → W P N ops Q rest ((d, .slice bo' (xs.take k).length c) :: l) w) :
   W P N ops Q (⟨some d, .slice t x none (some oh) none, ty, pos, aft, none⟩ :: rest) l w := by
 obtain ⟨i, hi', hz, hsz, hby⟩ := hE.out
 obtain ⟨_, _, he2, hS2, _⟩ := ownsRow_form ho
 injection he2 with e1 e2 e3
 subst e1; subst e3
 have hle := hS2.le
 obtain ⟨bo', hv, ho', hb'⟩ := ow_take ho hk hS2.nil
 refine W.op (v := .slice bo' (xs.take k).length c) (w' := w) rfl rfl hN (fun a ha => ?_) (next bo' ho' hb')
 have b1 : (Instr.sliceBound (.int kk (k : Int)) c (if true then .sliceAcap else .sliceAcap)).run P w = .ok k w := by
   have : (0 : Int) ≤ (k : Int) ∧ (k : Int) ≤ (c : Int) := by omega
   simp [Instr.sliceBound, asIntOf, this]
 have hrun : (Instr.slice t (.slice bo xs.length c) none (some (a.eval oh)) none).run P w = .ok (.slice bo' (xs.take k).length c) w := by
   rw [← hv, ha.ev hh]
   have b2 : ∀ (code : BoundsCode), (Instr.sliceBound (.int kk (k : Int)) c code).run P w = .ok k w := by
     intro code
     have : (0 : Int) ≤ (k : Int) ∧ (k : Int) ≤ (c : Int) := by omega
     simp [Instr.sliceBound, asIntOf, this]
   simp [Instr.slice, run_underlying hT, Instr.sliceBounds, sizeOf, typeInfo, hi', hsz, b2]
 simp only [execOp, Instr.sliceAt, ha.ev hx, Sem.run_bind, Sem.run_pure, Result.andThen_ok, run_underlying hT, Option.map_none, Option.map_some, hrun]
end
theorem Cut_ok (F : Nat → Prop) (g : Nat) (rv : Int) (D : Dsk) (n : Int) (w : World) (hD : Dk w F g rv D) : Ct Tryz.prog 30 #[.pointer (some ⟨g, 0, none⟩), .int .i64 n] w (fun v w' => v = .int .i64 (cutE D n : Int) ∧ Dk w' (Grown F w w') g rv (cutD D n) ∧ Chg F w w') := by
 refine Ct.enter [(0, .pointer (some ⟨g, 0, none⟩)), (1, .int .i64 n)] Tryz.func30 rfl rfl rfl rfl ?_
 have hsml := hD.ok.small
 refine C.seq (C.region (W.assign rfl rfl (W.nil (At.thenCode (C.seq (C.block (C.seq (C.region (W.move rfl rfl ?_)))))))))
 refine W.call Tryz.call26 rfl (Disk.failing_ok F g rv D _ hD) rfl ?_
 rintro v4 w4 ⟨rfl, hD1, hc4⟩
 have hcF : Chg F w w4 := hc4.mono fun k hk => by rw [hk]; exact hD.own
 obtain ⟨bo, cb, fo, cf, h1, h2, h3, h4, h5⟩ := hD1.out
 have h1 : Bk w4 g [.int .i64 rv, .slice bo D.bs.length cb, .int .i64 (D.syn : Int), .slice fo D.fails.tail.length cf] := h1
 have h2 : Ow w4 0 5 (.slice bo D.bs.length cb) D.bs := h2
 have h3 : Zs w4 fo cf D.fails.tail := h3
 have hs4 := hc4.size
 have hlo := ow_lt h2
 refine W.assign rfl rfl (W.nil (At.thenCode ?_))
 first | refine C.condD rfl (fun c5 => ?_) (fun c5 => ?_) | refine C.cond rfl (fun c5 => ?_) (fun c5 => ?_)
 refine C.seq (C.region (W.assign rfl rfl (W.nil (At.thenCode (C.ret (At.blockRet (At.thenRet ?_)))))))
 refine At.ret1 Tryz.results30 rfl ?_
 first
 | (have hbad : failB D = true ∨ CutBad D n := .inl c5
    have happ : cutD D n = failD D := by unfold cutD; rw [if_pos hbad, if_pos hbad]; rfl
    exact ⟨by unfold cutE; rw [if_pos (show failB D = true from c5)]; rfl, by rw [happ]; exact hD1.grow (fun k hk => .inl hk) (Grown.lt hD.lt hc4.size), hcF⟩)
 | (have hok := cutD_ok hD.ok n
    rw [hct2] at hok
    refine ⟨by unfold cutE; rw [if_neg hf, if_neg hnb]; rfl, ?_, hcF.trans (hcz2.mono fun k hk => by rw [hk]; exact hD.own)⟩
    rw [hct2]
    exact Dk.rebuild (D := ⟨D.room, D.bs.take m, m, D.fails.tail⟩) hD.own hD.lt hs4 hBz hoA h3 hcz2 (fun ad e => by obtain ⟨a, ha, hb⟩ := hbA ad e; rw [hb]; exact ⟨.inl (h4 a ha).1, (h4 a ha).2⟩) (fun ad e hne => by
      have hq := h5 ad e hne
      exact ⟨.inl hq.1, hq.2.1, fun ad' e' => by obtain ⟨a, ha, hb⟩ := hbA ad' e'; rw [hb]; exact hq.2.2 a ha⟩) hok hD.room hD.rvb)
 | (have hf : ¬ failB D = true := by simpa using c5
    have hcb : CutBad D n := by unfold CutBad; omega
    have hbad : failB D = true ∨ CutBad D n := .inr hcb
    have happ : cutD D n = failD D := by unfold cutD; rw [if_pos hbad, if_pos hbad]; rfl
    exact ⟨by unfold cutE; rw [if_neg hf, if_pos hcb]; rfl, by rw [happ]; exact hD1.grow (fun k hk => .inl hk) (Grown.lt hD.lt hc4.size), hcF⟩)
 refine C.seq (C.region (W.move rfl rfl (W.lssI rfl rfl rfl (W.move rfl rfl ?_))))
 refine W.splitD (fun g11 => ?_) (fun g11 => ?_)
 refine W.skips rfl rfl rfl rfl rfl rfl (W.skips rfl rfl rfl rfl rfl rfl (W.skips rfl rfl rfl rfl rfl rfl (W.skips rfl rfl rfl rfl rfl rfl (W.skips rfl rfl rfl rfl rfl rfl (W.skips rfl rfl rfl rfl rfl rfl (W.skips rfl rfl rfl rfl rfl rfl (W.pickT rfl rfl rfl (W.assign rfl rfl (W.nil (At.thenCode ?_))))))))))
 refine C.condT rfl ?_
 refine C.seq (C.region (W.assign rfl rfl (W.nil (At.thenCode (C.ret (At.blockRet (At.thenRet ?_)))))))
 refine At.ret1 Tryz.results30 rfl ?_
 first
 | (have hbad : failB D = true ∨ CutBad D n := .inl c5
    have happ : cutD D n = failD D := by unfold cutD; rw [if_pos hbad, if_pos hbad]; rfl
    exact ⟨by unfold cutE; rw [if_pos (show failB D = true from c5)]; rfl, by rw [happ]; exact hD1.grow (fun k hk => .inl hk) (Grown.lt hD.lt hc4.size), hcF⟩)
 | (have hok := cutD_ok hD.ok n
    rw [hct2] at hok
    refine ⟨by unfold cutE; rw [if_neg hf, if_neg hnb]; rfl, ?_, hcF.trans (hcz2.mono fun k hk => by rw [hk]; exact hD.own)⟩
    rw [hct2]
    exact Dk.rebuild (D := ⟨D.room, D.bs.take m, m, D.fails.tail⟩) hD.own hD.lt hs4 hBz hoA h3 hcz2 (fun ad e => by obtain ⟨a, ha, hb⟩ := hbA ad e; rw [hb]; exact ⟨.inl (h4 a ha).1, (h4 a ha).2⟩) (fun ad e hne => by
      have hq := h5 ad e hne
      exact ⟨.inl hq.1, hq.2.1, fun ad' e' => by obtain ⟨a, ha, hb⟩ := hbA ad' e'; rw [hb]; exact hq.2.2 a ha⟩) hok hD.room hD.rvb)
 | (have hf : ¬ failB D = true := by simpa using c5
    have hcb : CutBad D n := by unfold CutBad; omega
    have hbad : failB D = true ∨ CutBad D n := .inr hcb
    have happ : cutD D n = failD D := by unfold cutD; rw [if_pos hbad, if_pos hbad]; rfl
    exact ⟨by unfold cutE; rw [if_neg hf, if_pos hcb]; rfl, by rw [happ]; exact hD1.grow (fun k hk => .inl hk) (Grown.lt hD.lt hc4.size), hcF⟩)
 refine W.wants rfl rfl rfl rfl (W.move rfl rfl (W.wants rfl rfl rfl rfl (W.move rfl rfl (W.wants rfl rfl rfl rfl (W.nilCheck rfl rfl (W.wants rfl rfl rfl rfl (W.fieldB (off := 1) (size := 1) (t := 22) (Fld.of (by kernel_rfl)) rfl rfl rfl (W.wants rfl rfl rfl rfl ?_))))))))
 refine W.loadB rfl Tryz.underlying22 rfl (by assumption) rfl rfl ?_
 refine W.wants rfl rfl rfl rfl (W.lenS rfl Tryz.underlying22 rfl (W.wants rfl rfl rfl rfl (W.gtrI rfl rfl rfl (W.pickF rfl rfl rfl (W.assign rfl rfl (W.nil (At.thenCode ?_)))))))
 refine C.condD rfl (fun c8 => ?_) (fun c8 => ?_)
 refine C.seq (C.region (W.assign rfl rfl (W.nil (At.thenCode (C.ret (At.blockRet (At.thenRet ?_)))))))
 refine At.ret1 Tryz.results30 rfl ?_
 first
 | (have hbad : failB D = true ∨ CutBad D n := .inl c5
    have happ : cutD D n = failD D := by unfold cutD; rw [if_pos hbad, if_pos hbad]; rfl
    exact ⟨by unfold cutE; rw [if_pos (show failB D = true from c5)]; rfl, by rw [happ]; exact hD1.grow (fun k hk => .inl hk) (Grown.lt hD.lt hc4.size), hcF⟩)
 | (have hok := cutD_ok hD.ok n
    rw [hct2] at hok
    refine ⟨by unfold cutE; rw [if_neg hf, if_neg hnb]; rfl, ?_, hcF.trans (hcz2.mono fun k hk => by rw [hk]; exact hD.own)⟩
    rw [hct2]
    exact Dk.rebuild (D := ⟨D.room, D.bs.take m, m, D.fails.tail⟩) hD.own hD.lt hs4 hBz hoA h3 hcz2 (fun ad e => by obtain ⟨a, ha, hb⟩ := hbA ad e; rw [hb]; exact ⟨.inl (h4 a ha).1, (h4 a ha).2⟩) (fun ad e hne => by
      have hq := h5 ad e hne
      exact ⟨.inl hq.1, hq.2.1, fun ad' e' => by obtain ⟨a, ha, hb⟩ := hbA ad' e'; rw [hb]; exact hq.2.2 a ha⟩) hok hD.room hD.rvb)
 | (have hf : ¬ failB D = true := by simpa using c5
    have hcb : CutBad D n := by unfold CutBad; omega
    have hbad : failB D = true ∨ CutBad D n := .inr hcb
    have happ : cutD D n = failD D := by unfold cutD; rw [if_pos hbad, if_pos hbad]; rfl
    exact ⟨by unfold cutE; rw [if_neg hf, if_pos hcb]; rfl, by rw [happ]; exact hD1.grow (fun k hk => .inl hk) (Grown.lt hD.lt hc4.size), hcF⟩)
 refine C.skip (At.blockNormal (At.thenCode (C.seq (C.region (W.move rfl rfl (W.move rfl rfl (W.move rfl rfl (W.nilCheck rfl rfl (W.fieldB (off := 1) (size := 1) (t := 22) (Fld.of (by kernel_rfl)) rfl rfl rfl ?_)))))))))
 have hf : ¬ failB D = true := by simpa using c5
 have hnb : ¬ CutBad D n := by unfold CutBad; omega
 have hgood0 : ¬ (failB D = true ∨ CutBad D n) := fun h => h.elim hf hnb
 obtain ⟨m, hm⟩ : ∃ m : Nat, n = (m : Int) := ⟨n.toNat, by unfold CutBad at hnb; omega⟩
 have hml : m ≤ D.bs.length := by unfold CutBad at hnb; omega
 refine W.loadB rfl Tryz.underlying22 rfl (by assumption) rfl rfl ?_
 refine W.move rfl rfl ?_
 refine W.sliceO (k := m) (kk := .i64) E8 Tryz.underlying22 rfl h2 (look_eq rfl (iV hm)) hml rfl ?_
 intro aoA hoA hbA
 refine W.move rfl rfl (W.nilCheck rfl rfl (W.fieldB (off := 1) (size := 1) (t := 22) (Fld.of (by kernel_rfl)) rfl rfl rfl ?_))
 refine W.store1 rfl rfl rfl h1 (by simp) (by kernel_rfl) ?_
 intro w9 hc9 hB9
 refine W.nilCheck rfl rfl (W.fieldB (off := 2) (size := 1) (t := 3) (Fld.of (by kernel_rfl)) rfl rfl rfl ?_)
 refine W.store1 rfl rfl rfl hB9 (by simp) (by kernel_rfl) ?_
 intro wz hcz hBz
 have hBz : Bk wz g [.int .i64 rv, .slice aoA (D.bs.take m).length cb, .int .i64 (m : Int), .slice fo D.fails.tail.length cf] := by rw [hm] at hBz; exact hBz
 have hct2 : cutD D n = ⟨D.room, D.bs.take m, m, D.fails.tail⟩ := by unfold cutD; rw [if_neg hgood0, if_neg hgood0, hm]; rfl
 have hcz2 := hc9.trans hcz
 refine W.nil (At.thenCode (C.seq (C.region (W.assign rfl rfl (W.nil (At.thenCode (C.ret ?_)))))))
 refine At.ret1 Tryz.results30 rfl ?_
 first
 | (have hbad : failB D = true ∨ CutBad D n := .inl c5
    have happ : cutD D n = failD D := by unfold cutD; rw [if_pos hbad, if_pos hbad]; rfl
    exact ⟨by unfold cutE; rw [if_pos (show failB D = true from c5)]; rfl, by rw [happ]; exact hD1.grow (fun k hk => .inl hk) (Grown.lt hD.lt hc4.size), hcF⟩)
 | (have hok := cutD_ok hD.ok n
    rw [hct2] at hok
    refine ⟨by unfold cutE; rw [if_neg hf, if_neg hnb]; rfl, ?_, hcF.trans (hcz2.mono fun k hk => by rw [hk]; exact hD.own)⟩
    rw [hct2]
    exact Dk.rebuild (D := ⟨D.room, D.bs.take m, m, D.fails.tail⟩) hD.own hD.lt hs4 hBz hoA h3 hcz2 (fun ad e => by obtain ⟨a, ha, hb⟩ := hbA ad e; rw [hb]; exact ⟨.inl (h4 a ha).1, (h4 a ha).2⟩) (fun ad e hne => by
      have hq := h5 ad e hne
      exact ⟨.inl hq.1, hq.2.1, fun ad' e' => by obtain ⟨a, ha, hb⟩ := hbA ad' e'; rw [hb]; exact hq.2.2 a ha⟩) hok hD.room hD.rvb)
 | (have hf : ¬ failB D = true := by simpa using c5
    have hcb : CutBad D n := by unfold CutBad; omega
    have hbad : failB D = true ∨ CutBad D n := .inr hcb
    have happ : cutD D n = failD D := by unfold cutD; rw [if_pos hbad, if_pos hbad]; rfl
    exact ⟨by unfold cutE; rw [if_neg hf, if_pos hcb]; rfl, by rw [happ]; exact hD1.grow (fun k hk => .inl hk) (Grown.lt hD.lt hc4.size), hcF⟩)
theorem RAppend_ok (F : Nat → Prop) (g : Nat) (rv : Int) (D : Dsk) (ap : Option Addr) (cp : Nat) (b : List UInt8) (w : World) (hD : Dk w F g rv D) (hB : Bs w ap cp b) (hap : ∀ ad, ap = some ad → b ≠ [] → ¬ F ad.block) (hl : D.bs.length + b.length ≤ 10000000000) : Ct Tryz.prog 8 #[.pointer (some ⟨g, 0, none⟩), .slice ap b.length cp] w (fun v w' => v = .int .i64 (appE D b : Int) ∧ Dk w' (Grown F w w') g rv (appD D b) ∧ Chg F w w') := by
 refine Ct.enter [(0, .pointer (some ⟨g, 0, none⟩)), (1, .slice ap b.length cp)] Tryz.func8 rfl rfl rfl rfl ?_
 have hroom := hD.room
 have hfits := hD.ok.fits
 have hrvb := hD.rvb
 have hsml := hD.ok.small
 refine C.seq (C.region (W.assign rfl rfl (W.nil (At.thenCode (C.seq (C.seq (C.region (W.move rfl rfl ?_))))))))
 refine W.call Tryz.call27 rfl (Disk.Rfailing_ok F g rv D _ hD) rfl ?_
 rintro v4 w4 ⟨rfl, hD1, hc4⟩
 have hcF : Chg F w w4 := hc4.mono fun k hk => by rw [hk]; exact hD.own
 obtain ⟨bo, cb, fo, cf, h1, h2, h3, h4, h5⟩ := hD1.out
 have h1 : Bk w4 g [.int .i64 rv, .slice bo D.bs.length cb, .int .i64 (D.syn : Int), .slice fo D.fails.tail.length cf] := h1
 have h2 : Ow w4 0 5 (.slice bo D.bs.length cb) D.bs := h2
 have h3 : Zs w4 fo cf D.fails.tail := h3
 have hs4 := hc4.size
 have hlo := ow_lt h2
 have hB4 : Bs w4 ap cp b := Sl.chg hB hc4 (fun ad e hne hk => hap ad e (fun h => hne (by rw [h]; rfl)) (by rw [hk]; exact hD.own))
 obtain ⟨_, _, he2, hS2, _⟩ := ownsRow_form h2
 injection he2 with e1 e2 e3
 subst e1; subst e3
 refine W.nil (At.thenCode ?_)
 first | refine C.condD rfl (fun c6 => ?_) (fun c6 => ?_) | refine C.cond rfl (fun c6 => ?_) (fun c6 => ?_)
 refine C.seq (C.region (W.assign rfl rfl (W.nil (At.thenCode (C.ret (At.thenRet ?_))))))
 refine At.ret1 Tryz.results8 rfl ?_
 first
 | (have hf : failB D = true := c6
    have hbad : failB D = true ∨ Full D b.length := .inl hf
    have happ : appD D b = failD D := by unfold appD; rw [if_pos hbad]; rfl
    exact ⟨by unfold appE; rw [if_pos hbad]; rfl, by rw [happ]; exact hD1.grow (fun k hk => .inl hk) (Grown.lt hD.lt hc4.size), hcF⟩)
 | (have hap2 : appD D b = ⟨D.room, D.bs ++ b, D.syn, D.fails.tail⟩ := by unfold appD; rw [if_neg hgood0]
    have hok := appD_ok hD.ok (b := b) (by omega)
    rw [hap2] at hok
    refine ⟨by unfold appE; rw [if_neg hgood0]; rfl, ?_, hcA⟩
    rw [hap2]
    exact Dk.rebuild (D := ⟨D.room, D.bs ++ b, D.syn, D.fails.tail⟩) hD.own hD.lt hsA hB9 hoA hZA hc9 h4A h5A hok hD.room hD.rvb)
 | (have hbad : failB D = true ∨ Full D b.length := .inr (by unfold Full; omega)
    have happ : appD D b = failD D := by unfold appD; rw [if_pos hbad]; rfl
    have hD1 := hD1.ext hX3
    exact ⟨by unfold appE; rw [if_pos hbad]; rfl, by rw [happ]; exact hD1.grow (fun k hk => .inl hk) (Grown.lt hD.lt (Nat.le_trans hc4.size hX3.size)), hcF.trans (hX3.mono fun _ c => c.elim)⟩)
 refine C.skip (At.thenCode (C.seq (C.seq ?_)))
 by_cases hq : rv - (D.bs.length : Int) < (b.length : Int)
 refine C.regionAny 18 (E_ (.slice ap b.length cp) :: E_ (.int .i64 (b.length : Int)) :: E_ (.pointer (some ⟨g, 0, none⟩)) :: E_ (.pointer (some ⟨g, 0, none⟩)) :: E_ (.pointer (some ⟨g, 0, none⟩)) :: E_ (.int .i64 rv) :: E_ (.pointer (some ⟨g, 0, none⟩)) :: E_ (.pointer (some ⟨g, 0, none⟩)) :: E_ (.pointer (some ⟨g, 1, none⟩)) :: E_ (.slice bo D.bs.length cb) :: E_ (.int .i64 (D.bs.length : Int)) :: E_ (.int .i64 (rv - (D.bs.length : Int))) :: E_ (.bool true) :: E_ (.bool true) :: E_ (.slice ap b.length cp) :: E_ (.int .i64 (b.length : Int)) :: E_ (.bool (decide (0 < (b.length : Int)))) :: E_ (.bool (decide (0 < (b.length : Int)))) :: []) [(0, .pointer (some ⟨g, 0, none⟩)), (1, .slice ap b.length cp)] [] (sc rfl (sc rfl (Sub.nil))) (Sub.nil) (sc rfl (sc rfl (Sub.nil))) (by kernel_rfl) rfl rfl rfl (sN (sN (sN (sN (sN (sN (sN (sN (sN (sN (sN (sN (sN (sN (sN (sN (sN (sN (trivial))))))))))))))))))) ?_ ?_
 refine And.intro (mB rfl rfl (fun _ => rfl) rfl) ?_
 refine And.intro ?_ ?_
 intro L_ w5 hX_ hs_ hf_ hd_
 obtain ⟨_, e0, rfl⟩ := hd_ 0 rfl
 exact W.s1 (e0 _ rfl) (W.lenS rfl Tryz.underlying22 rfl (W.e0 rfl))
 refine And.intro (mB rfl rfl (fun _ => rfl) rfl) ?_
 refine And.intro ?_ ?_
 intro L_ w5 hX_ hs_ hf_ hd_
 obtain ⟨_, e2, rfl⟩ := hd_ 2 rfl
 exact W.s1 (e2 _ rfl) (W.nilCheck rfl rfl (W.e0 rfl))
 refine And.intro ?_ ?_
 intro L_ w5 hX_ hs_ hf_ hd_
 obtain ⟨_, e3, rfl⟩ := hd_ 3 rfl
 exact W.s1 (e3 _ rfl) (W.fieldB (off := 0) (size := 1) (t := 3) (Fld.of (by kernel_rfl)) rfl rfl rfl (W.e0 rfl))
 refine And.intro ?_ ?_
 intro L_ w5 hX_ hs_ hf_ hd_
 obtain ⟨_, e4, rfl⟩ := hd_ 4 rfl
 refine W.s1 (e4 _ rfl) ?_
 refine W.loadB rfl Tryz.underlying3 rfl (Bk.ext (by assumption) hX_) rfl rfl ?_
 exact W.e0 rfl
 refine And.intro (mB rfl rfl (fun _ => rfl) rfl) ?_
 refine And.intro ?_ ?_
 intro L_ w5 hX_ hs_ hf_ hd_
 obtain ⟨_, e6, rfl⟩ := hd_ 6 rfl
 exact W.s1 (e6 _ rfl) (W.nilCheck rfl rfl (W.e0 rfl))
 refine And.intro ?_ ?_
 intro L_ w5 hX_ hs_ hf_ hd_
 obtain ⟨_, e7, rfl⟩ := hd_ 7 rfl
 exact W.s1 (e7 _ rfl) (W.fieldB (off := 1) (size := 1) (t := 22) (Fld.of (by kernel_rfl)) rfl rfl rfl (W.e0 rfl))
 refine And.intro ?_ ?_
 intro L_ w5 hX_ hs_ hf_ hd_
 obtain ⟨_, e8, rfl⟩ := hd_ 8 rfl
 refine W.s1 (e8 _ rfl) ?_
 refine W.loadB rfl Tryz.underlying22 rfl (Bk.ext (by assumption) hX_) rfl rfl ?_
 exact W.e0 rfl
 refine And.intro ?_ ?_
 intro L_ w5 hX_ hs_ hf_ hd_
 obtain ⟨_, e9, rfl⟩ := hd_ 9 rfl
 exact W.s1 (e9 _ rfl) (W.lenS rfl Tryz.underlying22 rfl (W.e0 rfl))
 refine And.intro ?_ ?_
 intro L_ w5 hX_ hs_ hf_ hd_
 obtain ⟨_, e5, rfl⟩ := hd_ 5 rfl
 obtain ⟨_, e10, rfl⟩ := hd_ 10 rfl
 refine W.s2 (e5 _ rfl) (e10 _ rfl) ?_
 refine W.subI rfl rfl (by omega) rfl ?_
 exact W.e0 rfl
 refine And.intro ?_ ?_
 intro L_ w5 hX_ hs_ hf_ hd_
 obtain ⟨_, e1, rfl⟩ := hd_ 1 rfl
 obtain ⟨_, e11, rfl⟩ := hd_ 11 rfl
 refine W.s2 (e1 _ rfl) (e11 _ rfl) (W.gtrI rfl rfl rfl ?_)
 refine W.eqv (bT (hq)) ?_
 exact W.e0 rfl
 refine And.intro ?_ ?_
 intro L_ w5 hX_ hs_ hf_ hd_
 obtain ⟨_, e12, rfl⟩ := hd_ 12 rfl
 exact W.s1 (e12 _ rfl) (W.move rfl rfl (W.e0 rfl))
 refine And.intro ?_ ?_
 intro L_ w5 hX_ hs_ hf_ hd_
 obtain ⟨_, e13, rfl⟩ := hd_ 13 rfl
 exact W.s2 (hs_ 1 _ rfl) (e13 _ rfl) (W.wants rfl rfl rfl rfl (W.move rfl rfl (W.e0 rfl)))
 refine And.intro ?_ ?_
 intro L_ w5 hX_ hs_ hf_ hd_
 obtain ⟨_, e14, rfl⟩ := hd_ 14 rfl
 obtain ⟨_, e13, rfl⟩ := hd_ 13 rfl
 exact W.s2 (e14 _ rfl) (e13 _ rfl) (W.wants rfl rfl rfl rfl (W.lenS rfl Tryz.underlying22 rfl (W.e0 rfl)))
 refine And.intro ?_ ?_
 intro L_ w5 hX_ hs_ hf_ hd_
 obtain ⟨_, e15, rfl⟩ := hd_ 15 rfl
 obtain ⟨_, e13, rfl⟩ := hd_ 13 rfl
 exact W.s2 (e15 _ rfl) (e13 _ rfl) (W.wants rfl rfl rfl rfl (W.gtrI rfl rfl rfl (W.e0 rfl)))
 refine And.intro ?_ ?_
 intro L_ w5 hX_ hs_ hf_ hd_
 obtain ⟨_, e13, rfl⟩ := hd_ 13 rfl
 obtain ⟨_, e16, rfl⟩ := hd_ 16 rfl
 exact W.s2 (e13 _ rfl) (e16 _ rfl) (W.pickT rfl rfl rfl (W.e0 rfl))
 exact trivial
 intro L_ w5 hX3 hs_ hv_
 obtain ⟨_, e17, rfl⟩ := hv_ 17 (by decide)
 refine W.weaken (l' := [(24, _), (0, _), (1, _)]) (sc (e17 _ rfl) (sc (hs_ _ _ rfl) (sc (hs_ _ _ rfl) (Sub.nil)))) ?_
 refine W.nil (At.thenCode ?_)
 refine C.condD rfl (fun c24 => ?_) (fun c24 => ?_)
 refine C.seq (C.region (W.assign rfl rfl (W.nil (At.thenCode (C.ret (At.thenRet ?_))))))
 refine At.ret1 Tryz.results8 rfl ?_
 first
 | (have hf : failB D = true := c6
    have hbad : failB D = true ∨ Full D b.length := .inl hf
    have happ : appD D b = failD D := by unfold appD; rw [if_pos hbad]; rfl
    exact ⟨by unfold appE; rw [if_pos hbad]; rfl, by rw [happ]; exact hD1.grow (fun k hk => .inl hk) (Grown.lt hD.lt hc4.size), hcF⟩)
 | (have hap2 : appD D b = ⟨D.room, D.bs ++ b, D.syn, D.fails.tail⟩ := by unfold appD; rw [if_neg hgood0]
    have hok := appD_ok hD.ok (b := b) (by omega)
    rw [hap2] at hok
    refine ⟨by unfold appE; rw [if_neg hgood0]; rfl, ?_, hcA⟩
    rw [hap2]
    exact Dk.rebuild (D := ⟨D.room, D.bs ++ b, D.syn, D.fails.tail⟩) hD.own hD.lt hsA hB9 hoA hZA hc9 h4A h5A hok hD.room hD.rvb)
 | (have hbad : failB D = true ∨ Full D b.length := .inr (by unfold Full; omega)
    have happ : appD D b = failD D := by unfold appD; rw [if_pos hbad]; rfl
    have hD1 := hD1.ext hX3
    exact ⟨by unfold appE; rw [if_pos hbad]; rfl, by rw [happ]; exact hD1.grow (fun k hk => .inl hk) (Grown.lt hD.lt (Nat.le_trans hc4.size hX3.size)), hcF.trans (hX3.mono fun _ c => c.elim)⟩)
 refine C.skip (At.thenCode (C.seq (C.region (W.move rfl rfl (W.move rfl rfl (W.nilCheck rfl rfl (W.fieldB (off := 1) (size := 1) (t := 22) (Fld.of (by kernel_rfl)) rfl rfl rfl ?_)))))))
 have hf : ¬ failB D = true := by simpa using c6
 have hgood0 : ¬ (failB D = true ∨ Full D b.length) := fun h => h.elim hf (fun h => by unfold Full at h; omega)
 have h1 := h1.ext hX3
 have h2 := ownsRow_ext h2 hX3
 have h3 : Zs w5 fo cf D.fails.tail := Sl.ext h3 hX3
 have hB4 : Bs w5 ap cp b := Sl.ext hB4 hX3
 have hS2 : Bs w5 bo cb D.bs := Sl.ext hS2 hX3
 have hcF := hcF.trans (hX3.mono fun _ c => c.elim)
 have hs4 : w.heap.size ≤ w5.heap.size := hcF.size
 refine W.loadB rfl Tryz.underlying22 rfl (by assumption) rfl rfl ?_
 refine W.appendB E8 Tryz.underlying22 rfl rfl (Ow.nil _ w5.heap.size 5) hS2 (by simp; omega) (Nat.le_refl _) rfl ?_
 rw [List.nil_append]
 intro v30 w30 ho30 hg30 _
 have hX30 : Ext w5 w30 := (Chg.of_grown hg30).mono fun k hk => by cases hk
 refine W.move rfl rfl ?_
 refine W.appendB E8 Tryz.underlying22 rfl rfl ho30 (Sl.ext hB4 hX30) (by omega) hX30.size rfl ?_
 intro vA wA hoA hgA hnA
 have hXA : Ext w5 wA := hX30.news (Chg.of_grown hgA) (fun k hk => Or.inr ((World.ownsRow.lt ho30 k hk.symm).1))
 obtain ⟨aoA, cA, rfl, _, hbA⟩ := ownsRow_form hoA
 have hoA := ownsRow_base hoA (Nat.zero_le _)
 have hcAp : Chg (fun k => w5.heap.size ≤ k) w5 wA := hXA.mono fun k hk => hk.elim
 have hnewA : ∀ ad, aoA = some ad → w.heap.size ≤ ad.block := fun ad e => by have := hbA ad e; omega
 have hsA : w.heap.size ≤ wA.heap.size := by have := hcAp.size; omega
 have hcA0 : Chg F w wA := hcF.news hcAp (fun k hk => Or.inr (by omega))
 have h1A := h1.chg hcAp (fun hk => by have := hD.lt g hD.own; omega)
 have hZA : Zs wA fo cf D.fails.tail := Sl.chg h3 hcAp (fun ad e hne hk => by
   have hq := h5 ad e (fun h => hne (by rw [show D.fails.tail = [] from h]; rfl))
   have := hD.lt _ hq.1; omega)
 refine W.nilCheck rfl rfl (W.fieldB (off := 1) (size := 1) (t := 22) (Fld.of (by kernel_rfl)) rfl rfl rfl ?_)
 refine W.store1 rfl rfl rfl h1A (by simp) (by kernel_rfl) ?_
 intro w9 hc9 hB9
 have hc9F : Chg F wA w9 := hc9.mono fun k hk => by rw [hk]; exact hD.own
 have hcA := hcA0.trans hc9F
 have h5A : ∀ ad, fo = some ad → D.fails.tail ≠ [] → Grown F w wA ad.block ∧ ad.block ≠ g ∧ ∀ ad', aoA = some ad' → ad.block ≠ ad'.block := fun ad e hne => by
   have hq := h5 ad e hne
   refine ⟨.inl hq.1, hq.2.1, fun ad' e' => ?_⟩
   have := hnewA ad' e'
   have := hD.lt _ hq.1
   omega
 have h4A : ∀ ad, aoA = some ad → Grown F w wA ad.block ∧ ad.block ≠ g := fun ad e => by
   have hltA := ow_lt hoA ad e
   have hb := hnewA ad e
   exact ⟨.inr ⟨hb, hltA⟩, fun c => by have := hD.lt g hD.own; omega⟩
 refine W.nil (At.thenCode (C.seq (C.region (W.assign rfl rfl (W.nil (At.thenCode (C.ret ?_)))))))
 refine At.ret1 Tryz.results8 rfl ?_
 first
 | (have hf : failB D = true := c6
    have hbad : failB D = true ∨ Full D b.length := .inl hf
    have happ : appD D b = failD D := by unfold appD; rw [if_pos hbad]; rfl
    exact ⟨by unfold appE; rw [if_pos hbad]; rfl, by rw [happ]; exact hD1.grow (fun k hk => .inl hk) (Grown.lt hD.lt hc4.size), hcF⟩)
 | (have hap2 : appD D b = ⟨D.room, D.bs ++ b, D.syn, D.fails.tail⟩ := by unfold appD; rw [if_neg hgood0]
    have hok := appD_ok hD.ok (b := b) (by omega)
    rw [hap2] at hok
    refine ⟨by unfold appE; rw [if_neg hgood0]; rfl, ?_, hcA⟩
    rw [hap2]
    exact Dk.rebuild (D := ⟨D.room, D.bs ++ b, D.syn, D.fails.tail⟩) hD.own hD.lt hsA hB9 hoA hZA hc9 h4A h5A hok hD.room hD.rvb)
 | (have hbad : failB D = true ∨ Full D b.length := .inr (by unfold Full; omega)
    have happ : appD D b = failD D := by unfold appD; rw [if_pos hbad]; rfl
    have hD1 := hD1.ext hX3
    exact ⟨by unfold appE; rw [if_pos hbad]; rfl, by rw [happ]; exact hD1.grow (fun k hk => .inl hk) (Grown.lt hD.lt (Nat.le_trans hc4.size hX3.size)), hcF.trans (hX3.mono fun _ c => c.elim)⟩)
 refine C.regionAny 18 (E_ (.slice ap b.length cp) :: E_ (.int .i64 (b.length : Int)) :: E_ (.pointer (some ⟨g, 0, none⟩)) :: E_ (.pointer (some ⟨g, 0, none⟩)) :: E_ (.pointer (some ⟨g, 0, none⟩)) :: E_ (.int .i64 rv) :: E_ (.pointer (some ⟨g, 0, none⟩)) :: E_ (.pointer (some ⟨g, 0, none⟩)) :: E_ (.pointer (some ⟨g, 1, none⟩)) :: E_ (.slice bo D.bs.length cb) :: E_ (.int .i64 (D.bs.length : Int)) :: E_ (.int .i64 (rv - (D.bs.length : Int))) :: E_ (.bool false) :: E_ (.bool false) :: E_ (undef) :: E_ (undef) :: E_ (undef) :: E_ (.bool false) :: []) [(0, .pointer (some ⟨g, 0, none⟩)), (1, .slice ap b.length cp)] [] (sc rfl (sc rfl (Sub.nil))) (Sub.nil) (sc rfl (sc rfl (Sub.nil))) (by kernel_rfl) rfl rfl rfl (sN (sN (sN (sN (sN (sN (sN (sN (sN (sN (sN (sN (sN (sN (sN (sN (sN (sN (trivial))))))))))))))))))) ?_ ?_
 refine And.intro (mB rfl rfl (fun _ => rfl) rfl) ?_
 refine And.intro ?_ ?_
 intro L_ w5 hX_ hs_ hf_ hd_
 obtain ⟨_, e0, rfl⟩ := hd_ 0 rfl
 exact W.s1 (e0 _ rfl) (W.lenS rfl Tryz.underlying22 rfl (W.e0 rfl))
 refine And.intro (mB rfl rfl (fun _ => rfl) rfl) ?_
 refine And.intro ?_ ?_
 intro L_ w5 hX_ hs_ hf_ hd_
 obtain ⟨_, e2, rfl⟩ := hd_ 2 rfl
 exact W.s1 (e2 _ rfl) (W.nilCheck rfl rfl (W.e0 rfl))
 refine And.intro ?_ ?_
 intro L_ w5 hX_ hs_ hf_ hd_
 obtain ⟨_, e3, rfl⟩ := hd_ 3 rfl
 exact W.s1 (e3 _ rfl) (W.fieldB (off := 0) (size := 1) (t := 3) (Fld.of (by kernel_rfl)) rfl rfl rfl (W.e0 rfl))
 refine And.intro ?_ ?_
 intro L_ w5 hX_ hs_ hf_ hd_
 obtain ⟨_, e4, rfl⟩ := hd_ 4 rfl
 refine W.s1 (e4 _ rfl) ?_
 refine W.loadB rfl Tryz.underlying3 rfl (Bk.ext (by assumption) hX_) rfl rfl ?_
 exact W.e0 rfl
 refine And.intro (mB rfl rfl (fun _ => rfl) rfl) ?_
 refine And.intro ?_ ?_
 intro L_ w5 hX_ hs_ hf_ hd_
 obtain ⟨_, e6, rfl⟩ := hd_ 6 rfl
 exact W.s1 (e6 _ rfl) (W.nilCheck rfl rfl (W.e0 rfl))
 refine And.intro ?_ ?_
 intro L_ w5 hX_ hs_ hf_ hd_
 obtain ⟨_, e7, rfl⟩ := hd_ 7 rfl
 exact W.s1 (e7 _ rfl) (W.fieldB (off := 1) (size := 1) (t := 22) (Fld.of (by kernel_rfl)) rfl rfl rfl (W.e0 rfl))
 refine And.intro ?_ ?_
 intro L_ w5 hX_ hs_ hf_ hd_
 obtain ⟨_, e8, rfl⟩ := hd_ 8 rfl
 refine W.s1 (e8 _ rfl) ?_
 refine W.loadB rfl Tryz.underlying22 rfl (Bk.ext (by assumption) hX_) rfl rfl ?_
 exact W.e0 rfl
 refine And.intro ?_ ?_
 intro L_ w5 hX_ hs_ hf_ hd_
 obtain ⟨_, e9, rfl⟩ := hd_ 9 rfl
 exact W.s1 (e9 _ rfl) (W.lenS rfl Tryz.underlying22 rfl (W.e0 rfl))
 refine And.intro ?_ ?_
 intro L_ w5 hX_ hs_ hf_ hd_
 obtain ⟨_, e5, rfl⟩ := hd_ 5 rfl
 obtain ⟨_, e10, rfl⟩ := hd_ 10 rfl
 refine W.s2 (e5 _ rfl) (e10 _ rfl) ?_
 refine W.subI rfl rfl (by omega) rfl ?_
 exact W.e0 rfl
 refine And.intro ?_ ?_
 intro L_ w5 hX_ hs_ hf_ hd_
 obtain ⟨_, e1, rfl⟩ := hd_ 1 rfl
 obtain ⟨_, e11, rfl⟩ := hd_ 11 rfl
 refine W.s2 (e1 _ rfl) (e11 _ rfl) (W.gtrI rfl rfl rfl ?_)
 refine W.eqv (bF (hq)) ?_
 exact W.e0 rfl
 refine And.intro ?_ ?_
 intro L_ w5 hX_ hs_ hf_ hd_
 obtain ⟨_, e12, rfl⟩ := hd_ 12 rfl
 exact W.s1 (e12 _ rfl) (W.move rfl rfl (W.e0 rfl))
 refine And.intro ?_ ?_
 intro L_ w5 hX_ hs_ hf_ hd_
 obtain ⟨_, e13, rfl⟩ := hd_ 13 rfl
 exact W.s1 (e13 _ rfl) (W.skips rfl rfl rfl rfl rfl rfl (W.e0 rfl))
 refine And.intro ?_ ?_
 intro L_ w5 hX_ hs_ hf_ hd_
 obtain ⟨_, e13, rfl⟩ := hd_ 13 rfl
 exact W.s1 (e13 _ rfl) (W.skips rfl rfl rfl rfl rfl rfl (W.e0 rfl))
 refine And.intro ?_ ?_
 intro L_ w5 hX_ hs_ hf_ hd_
 obtain ⟨_, e13, rfl⟩ := hd_ 13 rfl
 exact W.s1 (e13 _ rfl) (W.skips rfl rfl rfl rfl rfl rfl (W.e0 rfl))
 refine And.intro ?_ ?_
 intro L_ w5 hX_ hs_ hf_ hd_
 obtain ⟨_, e13, rfl⟩ := hd_ 13 rfl
 obtain ⟨v16, e16, r16⟩ := hd_ 16 rfl
 obtain rfl : (undef : Value) = v16 := Eq.symm r16
 exact W.s2 (e13 _ rfl) (e16 _ rfl) (W.pickF rfl rfl rfl (W.e0 rfl))
 exact trivial
 intro L_ w5 hX3 hs_ hv_
 obtain ⟨_, e17, rfl⟩ := hv_ 17 (by decide)
 refine W.weaken (l' := [(24, _), (0, _), (1, _)]) (sc (e17 _ rfl) (sc (hs_ _ _ rfl) (sc (hs_ _ _ rfl) (Sub.nil)))) ?_
 refine W.nil (At.thenCode ?_)
 refine C.condF rfl ?_
 refine C.skip (At.thenCode (C.seq (C.region (W.move rfl rfl (W.move rfl rfl (W.nilCheck rfl rfl (W.fieldB (off := 1) (size := 1) (t := 22) (Fld.of (by kernel_rfl)) rfl rfl rfl ?_)))))))
 have hf : ¬ failB D = true := by simpa using c6
 have hgood0 : ¬ (failB D = true ∨ Full D b.length) := fun h => h.elim hf (fun h => by unfold Full at h; omega)
 have h1 := h1.ext hX3
 have h2 := ownsRow_ext h2 hX3
 have h3 : Zs w5 fo cf D.fails.tail := Sl.ext h3 hX3
 have hB4 : Bs w5 ap cp b := Sl.ext hB4 hX3
 have hS2 : Bs w5 bo cb D.bs := Sl.ext hS2 hX3
 have hcF := hcF.trans (hX3.mono fun _ c => c.elim)
 have hs4 : w.heap.size ≤ w5.heap.size := hcF.size
 refine W.loadB rfl Tryz.underlying22 rfl (by assumption) rfl rfl ?_
 refine W.appendB E8 Tryz.underlying22 rfl rfl (Ow.nil _ w5.heap.size 5) hS2 (by simp; omega) (Nat.le_refl _) rfl ?_
 rw [List.nil_append]
 intro v30 w30 ho30 hg30 _
 have hX30 : Ext w5 w30 := (Chg.of_grown hg30).mono fun k hk => by cases hk
 refine W.move rfl rfl ?_
 refine W.appendB E8 Tryz.underlying22 rfl rfl ho30 (Sl.ext hB4 hX30) (by omega) hX30.size rfl ?_
 intro vA wA hoA hgA hnA
 have hXA : Ext w5 wA := hX30.news (Chg.of_grown hgA) (fun k hk => Or.inr ((World.ownsRow.lt ho30 k hk.symm).1))
 obtain ⟨aoA, cA, rfl, _, hbA⟩ := ownsRow_form hoA
 have hoA := ownsRow_base hoA (Nat.zero_le _)
 have hcAp : Chg (fun k => w5.heap.size ≤ k) w5 wA := hXA.mono fun k hk => hk.elim
 have hnewA : ∀ ad, aoA = some ad → w.heap.size ≤ ad.block := fun ad e => by have := hbA ad e; omega
 have hsA : w.heap.size ≤ wA.heap.size := by have := hcAp.size; omega
 have hcA0 : Chg F w wA := hcF.news hcAp (fun k hk => Or.inr (by omega))
 have h1A := h1.chg hcAp (fun hk => by have := hD.lt g hD.own; omega)
 have hZA : Zs wA fo cf D.fails.tail := Sl.chg h3 hcAp (fun ad e hne hk => by
   have hq := h5 ad e (fun h => hne (by rw [show D.fails.tail = [] from h]; rfl))
   have := hD.lt _ hq.1; omega)
 refine W.nilCheck rfl rfl (W.fieldB (off := 1) (size := 1) (t := 22) (Fld.of (by kernel_rfl)) rfl rfl rfl ?_)
 refine W.store1 rfl rfl rfl h1A (by simp) (by kernel_rfl) ?_
 intro w9 hc9 hB9
 have hc9F : Chg F wA w9 := hc9.mono fun k hk => by rw [hk]; exact hD.own
 have hcA := hcA0.trans hc9F
 have h5A : ∀ ad, fo = some ad → D.fails.tail ≠ [] → Grown F w wA ad.block ∧ ad.block ≠ g ∧ ∀ ad', aoA = some ad' → ad.block ≠ ad'.block := fun ad e hne => by
   have hq := h5 ad e hne
   refine ⟨.inl hq.1, hq.2.1, fun ad' e' => ?_⟩
   have := hnewA ad' e'
   have := hD.lt _ hq.1
   omega
 have h4A : ∀ ad, aoA = some ad → Grown F w wA ad.block ∧ ad.block ≠ g := fun ad e => by
   have hltA := ow_lt hoA ad e
   have hb := hnewA ad e
   exact ⟨.inr ⟨hb, hltA⟩, fun c => by have := hD.lt g hD.own; omega⟩
 refine W.nil (At.thenCode (C.seq (C.region (W.assign rfl rfl (W.nil (At.thenCode (C.ret ?_)))))))
 refine At.ret1 Tryz.results8 rfl ?_
 first
 | (have hf : failB D = true := c6
    have hbad : failB D = true ∨ Full D b.length := .inl hf
    have happ : appD D b = failD D := by unfold appD; rw [if_pos hbad]; rfl
    exact ⟨by unfold appE; rw [if_pos hbad]; rfl, by rw [happ]; exact hD1.grow (fun k hk => .inl hk) (Grown.lt hD.lt hc4.size), hcF⟩)
 | (have hap2 : appD D b = ⟨D.room, D.bs ++ b, D.syn, D.fails.tail⟩ := by unfold appD; rw [if_neg hgood0]
    have hok := appD_ok hD.ok (b := b) (by omega)
    rw [hap2] at hok
    refine ⟨by unfold appE; rw [if_neg hgood0]; rfl, ?_, hcA⟩
    rw [hap2]
    exact Dk.rebuild (D := ⟨D.room, D.bs ++ b, D.syn, D.fails.tail⟩) hD.own hD.lt hsA hB9 hoA hZA hc9 h4A h5A hok hD.room hD.rvb)
 | (have hbad : failB D = true ∨ Full D b.length := .inr (by unfold Full; omega)
    have happ : appD D b = failD D := by unfold appD; rw [if_pos hbad]; rfl
    have hD1 := hD1.ext hX3
    exact ⟨by unfold appE; rw [if_pos hbad]; rfl, by rw [happ]; exact hD1.grow (fun k hk => .inl hk) (Grown.lt hD.lt (Nat.le_trans hc4.size hX3.size)), hcF.trans (hX3.mono fun _ c => c.elim)⟩)
theorem RCut_ok (F : Nat → Prop) (g : Nat) (rv : Int) (D : Dsk) (n : Int) (w : World) (hD : Dk w F g rv D) : Ct Tryz.prog 33 #[.pointer (some ⟨g, 0, none⟩), .int .i64 n] w (fun v w' => v = .int .i64 (cutE D n : Int) ∧ Dk w' (Grown F w w') g rv (cutD D n) ∧ Chg F w w') := by
 refine Ct.enter [(0, .pointer (some ⟨g, 0, none⟩)), (1, .int .i64 n)] Tryz.func33 rfl rfl rfl rfl ?_
 have hsml := hD.ok.small
 refine C.seq (C.region (W.assign rfl rfl (W.nil (At.thenCode (C.seq (C.seq (C.region (W.move rfl rfl ?_))))))))
 refine W.call Tryz.call27 rfl (Disk.Rfailing_ok F g rv D _ hD) rfl ?_
 rintro v4 w4 ⟨rfl, hD1, hc4⟩
 have hcF : Chg F w w4 := hc4.mono fun k hk => by rw [hk]; exact hD.own
 obtain ⟨bo, cb, fo, cf, h1, h2, h3, h4, h5⟩ := hD1.out
 have h1 : Bk w4 g [.int .i64 rv, .slice bo D.bs.length cb, .int .i64 (D.syn : Int), .slice fo D.fails.tail.length cf] := h1
 have h2 : Ow w4 0 5 (.slice bo D.bs.length cb) D.bs := h2
 have h3 : Zs w4 fo cf D.fails.tail := h3
 have hs4 := hc4.size
 have hlo := ow_lt h2
 refine W.nil (At.thenCode ?_)
 first | refine C.condD rfl (fun c6 => ?_) (fun c6 => ?_) | refine C.cond rfl (fun c6 => ?_) (fun c6 => ?_)
 refine C.seq (C.region (W.assign rfl rfl (W.nil (At.thenCode (C.ret (At.thenRet ?_))))))
 refine At.ret1 Tryz.results33 rfl ?_
 first
 | (have hbad : failB D = true ∨ CutBad D n := .inl c6
    have happ : cutD D n = failD D := by unfold cutD; rw [if_pos hbad, if_pos hbad]; rfl
    exact ⟨by unfold cutE; rw [if_pos (show failB D = true from c6)]; rfl, by rw [happ]; exact hD1.grow (fun k hk => .inl hk) (Grown.lt hD.lt hc4.size), hcF⟩)
 | (have hok := cutD_ok hD.ok n
    rw [hct2] at hok
    refine ⟨by unfold cutE; rw [if_neg hf, if_neg hnb]; rfl, ?_, hcA⟩
    rw [hct2]
    exact Dk.rebuild (D := ⟨D.room, D.bs.take m, m, D.fails.tail⟩) hD.own hD.lt hsA hB9 hoA hZA hc9 h4A h5A hok hD.room hD.rvb)
 | (have hf : ¬ failB D = true := by simpa using c6
    have hcb : CutBad D n := by unfold CutBad; omega
    have hbad : failB D = true ∨ CutBad D n := .inr hcb
    have happ : cutD D n = failD D := by unfold cutD; rw [if_pos hbad, if_pos hbad]; rfl
    exact ⟨by unfold cutE; rw [if_neg hf, if_pos hcb]; rfl, by rw [happ]; exact hD1.grow (fun k hk => .inl hk) (Grown.lt hD.lt hc4.size), hcF⟩)
 refine C.skip (At.thenCode (C.seq (C.seq (C.region (W.move rfl rfl (W.lssI rfl rfl rfl (W.move rfl rfl ?_)))))))
 refine W.splitD (fun g9 => ?_) (fun g9 => ?_)
 refine W.skips rfl rfl rfl rfl rfl rfl (W.skips rfl rfl rfl rfl rfl rfl (W.skips rfl rfl rfl rfl rfl rfl (W.skips rfl rfl rfl rfl rfl rfl (W.skips rfl rfl rfl rfl rfl rfl (W.skips rfl rfl rfl rfl rfl rfl (W.skips rfl rfl rfl rfl rfl rfl (W.pickT rfl rfl rfl (W.nil (At.thenCode ?_)))))))))
 refine C.condT rfl ?_
 refine C.seq (C.region (W.assign rfl rfl (W.nil (At.thenCode (C.ret (At.thenRet ?_))))))
 refine At.ret1 Tryz.results33 rfl ?_
 first
 | (have hbad : failB D = true ∨ CutBad D n := .inl c6
    have happ : cutD D n = failD D := by unfold cutD; rw [if_pos hbad, if_pos hbad]; rfl
    exact ⟨by unfold cutE; rw [if_pos (show failB D = true from c6)]; rfl, by rw [happ]; exact hD1.grow (fun k hk => .inl hk) (Grown.lt hD.lt hc4.size), hcF⟩)
 | (have hok := cutD_ok hD.ok n
    rw [hct2] at hok
    refine ⟨by unfold cutE; rw [if_neg hf, if_neg hnb]; rfl, ?_, hcA⟩
    rw [hct2]
    exact Dk.rebuild (D := ⟨D.room, D.bs.take m, m, D.fails.tail⟩) hD.own hD.lt hsA hB9 hoA hZA hc9 h4A h5A hok hD.room hD.rvb)
 | (have hf : ¬ failB D = true := by simpa using c6
    have hcb : CutBad D n := by unfold CutBad; omega
    have hbad : failB D = true ∨ CutBad D n := .inr hcb
    have happ : cutD D n = failD D := by unfold cutD; rw [if_pos hbad, if_pos hbad]; rfl
    exact ⟨by unfold cutE; rw [if_neg hf, if_pos hcb]; rfl, by rw [happ]; exact hD1.grow (fun k hk => .inl hk) (Grown.lt hD.lt hc4.size), hcF⟩)
 refine W.wants rfl rfl rfl rfl (W.move rfl rfl (W.wants rfl rfl rfl rfl (W.move rfl rfl (W.wants rfl rfl rfl rfl (W.nilCheck rfl rfl (W.wants rfl rfl rfl rfl (W.fieldB (off := 1) (size := 1) (t := 22) (Fld.of (by kernel_rfl)) rfl rfl rfl (W.wants rfl rfl rfl rfl ?_))))))))
 refine W.loadB rfl Tryz.underlying22 rfl (by assumption) rfl rfl ?_
 refine W.wants rfl rfl rfl rfl (W.lenS rfl Tryz.underlying22 rfl (W.wants rfl rfl rfl rfl (W.gtrI rfl rfl rfl (W.pickF rfl rfl rfl (W.nil (At.thenCode ?_))))))
 refine C.condD rfl (fun c17 => ?_) (fun c17 => ?_)
 refine C.seq (C.region (W.assign rfl rfl (W.nil (At.thenCode (C.ret (At.thenRet ?_))))))
 refine At.ret1 Tryz.results33 rfl ?_
 first
 | (have hbad : failB D = true ∨ CutBad D n := .inl c6
    have happ : cutD D n = failD D := by unfold cutD; rw [if_pos hbad, if_pos hbad]; rfl
    exact ⟨by unfold cutE; rw [if_pos (show failB D = true from c6)]; rfl, by rw [happ]; exact hD1.grow (fun k hk => .inl hk) (Grown.lt hD.lt hc4.size), hcF⟩)
 | (have hok := cutD_ok hD.ok n
    rw [hct2] at hok
    refine ⟨by unfold cutE; rw [if_neg hf, if_neg hnb]; rfl, ?_, hcA⟩
    rw [hct2]
    exact Dk.rebuild (D := ⟨D.room, D.bs.take m, m, D.fails.tail⟩) hD.own hD.lt hsA hB9 hoA hZA hc9 h4A h5A hok hD.room hD.rvb)
 | (have hf : ¬ failB D = true := by simpa using c6
    have hcb : CutBad D n := by unfold CutBad; omega
    have hbad : failB D = true ∨ CutBad D n := .inr hcb
    have happ : cutD D n = failD D := by unfold cutD; rw [if_pos hbad, if_pos hbad]; rfl
    exact ⟨by unfold cutE; rw [if_neg hf, if_pos hcb]; rfl, by rw [happ]; exact hD1.grow (fun k hk => .inl hk) (Grown.lt hD.lt hc4.size), hcF⟩)
 refine C.skip (At.thenCode (C.seq (C.region (W.move rfl rfl (W.move rfl rfl (W.nilCheck rfl rfl (W.fieldB (off := 1) (size := 1) (t := 22) (Fld.of (by kernel_rfl)) rfl rfl rfl ?_)))))))
 have hf : ¬ failB D = true := by simpa using c6
 have hnb : ¬ CutBad D n := by unfold CutBad; omega
 have hgood0 : ¬ (failB D = true ∨ CutBad D n) := fun h => h.elim hf hnb
 obtain ⟨m, hm⟩ : ∃ m : Nat, n = (m : Int) := ⟨n.toNat, by unfold CutBad at hnb; omega⟩
 have hml : m ≤ D.bs.length := by unfold CutBad at hnb; omega
 refine W.loadB rfl Tryz.underlying22 rfl (by assumption) rfl rfl ?_
 refine W.move rfl rfl ?_
 refine W.sliceO (k := m) (kk := .i64) E8 Tryz.underlying22 rfl h2 (look_eq rfl (iV hm)) hml rfl ?_
 intro ao24 ho24 hb24
 obtain ⟨_, _, he24, hS24, _⟩ := ownsRow_form ho24
 injection he24 with e1 e2 e3
 subst e1; subst e3
 refine W.appendB E8 Tryz.underlying22 rfl rfl (Ow.nil _ w4.heap.size 5) hS24 (by rw [List.length_take]; simp; omega) (Nat.le_refl _) rfl ?_
 rw [List.nil_append]
 intro vA wA hoA hgA _
 have hXA : Ext w4 wA := (Chg.of_grown hgA).mono fun k hk => by cases hk
 obtain ⟨aoA, cA, rfl, _, hbA⟩ := ownsRow_form hoA
 have hoA := ownsRow_base hoA (Nat.zero_le _)
 have hcAp : Chg (fun k => w4.heap.size ≤ k) w4 wA := hXA.mono fun k hk => hk.elim
 have hnewA : ∀ ad, aoA = some ad → w.heap.size ≤ ad.block := fun ad e => by have := hbA ad e; omega
 have hsA : w.heap.size ≤ wA.heap.size := by have := hcAp.size; omega
 have hcA0 : Chg F w wA := hcF.news hcAp (fun k hk => Or.inr (by omega))
 have h1A := h1.chg hcAp (fun hk => by have := hD.lt g hD.own; omega)
 have hZA : Zs wA fo cf D.fails.tail := Sl.chg h3 hcAp (fun ad e hne hk => by
   have hq := h5 ad e (fun h => hne (by rw [show D.fails.tail = [] from h]; rfl))
   have := hD.lt _ hq.1; omega)
 refine W.nilCheck rfl rfl (W.fieldB (off := 1) (size := 1) (t := 22) (Fld.of (by kernel_rfl)) rfl rfl rfl ?_)
 refine W.store1 rfl rfl rfl h1A (by simp) (by kernel_rfl) ?_
 intro wy hcy hBy
 refine W.nil (At.thenCode (C.seq (C.region (W.move rfl rfl (W.move rfl rfl (W.nilCheck rfl rfl (W.fieldB (off := 2) (size := 1) (t := 3) (Fld.of (by kernel_rfl)) rfl rfl rfl ?_)))))))
 refine W.store1 rfl rfl rfl hBy (by simp) (by kernel_rfl) ?_
 intro w9 hcz hB9
 have hc9 := hcy.trans hcz
 have hB9 : Bk w9 g [.int .i64 rv, .slice aoA (D.bs.take m).length cA, .int .i64 (m : Int), .slice fo D.fails.tail.length cf] := by rw [hm] at hB9; exact hB9
 have hct2 : cutD D n = ⟨D.room, D.bs.take m, m, D.fails.tail⟩ := by unfold cutD; rw [if_neg hgood0, if_neg hgood0, hm]; rfl
 have hc9F : Chg F wA w9 := hc9.mono fun k hk => by rw [hk]; exact hD.own
 have hcA := hcA0.trans hc9F
 have h5A : ∀ ad, fo = some ad → D.fails.tail ≠ [] → Grown F w wA ad.block ∧ ad.block ≠ g ∧ ∀ ad', aoA = some ad' → ad.block ≠ ad'.block := fun ad e hne => by
   have hq := h5 ad e hne
   refine ⟨.inl hq.1, hq.2.1, fun ad' e' => ?_⟩
   have := hnewA ad' e'
   have := hD.lt _ hq.1
   omega
 have h4A : ∀ ad, aoA = some ad → Grown F w wA ad.block ∧ ad.block ≠ g := fun ad e => by
   have hltA := ow_lt hoA ad e
   have hb := hnewA ad e
   exact ⟨.inr ⟨hb, hltA⟩, fun c => by have := hD.lt g hD.own; omega⟩
 refine W.nil (At.thenCode (C.seq (C.region (W.assign rfl rfl (W.nil (At.thenCode (C.ret ?_)))))))
 refine At.ret1 Tryz.results33 rfl ?_
 first
 | (have hbad : failB D = true ∨ CutBad D n := .inl c6
    have happ : cutD D n = failD D := by unfold cutD; rw [if_pos hbad, if_pos hbad]; rfl
    exact ⟨by unfold cutE; rw [if_pos (show failB D = true from c6)]; rfl, by rw [happ]; exact hD1.grow (fun k hk => .inl hk) (Grown.lt hD.lt hc4.size), hcF⟩)
 | (have hok := cutD_ok hD.ok n
    rw [hct2] at hok
    refine ⟨by unfold cutE; rw [if_neg hf, if_neg hnb]; rfl, ?_, hcA⟩
    rw [hct2]
    exact Dk.rebuild (D := ⟨D.room, D.bs.take m, m, D.fails.tail⟩) hD.own hD.lt hsA hB9 hoA hZA hc9 h4A h5A hok hD.room hD.rvb)
 | (have hf : ¬ failB D = true := by simpa using c6
    have hcb : CutBad D n := by unfold CutBad; omega
    have hbad : failB D = true ∨ CutBad D n := .inr hcb
    have happ : cutD D n = failD D := by unfold cutD; rw [if_pos hbad, if_pos hbad]; rfl
    exact ⟨by unfold cutE; rw [if_neg hf, if_pos hcb]; rfl, by rw [happ]; exact hD1.grow (fun k hk => .inl hk) (Grown.lt hD.lt hc4.size), hcF⟩)
end Go.Proofs.YthiijdbiikljpaaGreat.Disk
