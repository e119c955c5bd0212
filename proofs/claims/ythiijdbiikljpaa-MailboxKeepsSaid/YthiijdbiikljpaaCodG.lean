/- Package codec's function that writes a batch. -/
import Derived.Test.YthiijdbiikljpaaCodF
namespace Go.Proofs.Ythiijdbiikljpaa.Cod
open Go Go.RowKit Go.Proofs.Ythiijdbiikljpaa.KW Go.Proofs.Ythiijdbiikljpaa.Words Go.Proofs.Ythiijdbiikljpaa.Grp
set_option linter.unusedVariables false
set_option linter.unusedSimpArgs false
set_option maxRecDepth 100000
theorem lets_lens (ls : List Let) : (lenE 1000 (ls.map (·.2.length)) = if 1000 < ls.length ∨ longL ls then 3 else 0) ∧ (ls.map (·.2.length)).headD 0 = sizeL ls ∧ ((ls.map (·.2.length)).all (· == sizeL ls) = true ↔ ∀ p ∈ ls, p.2.length = sizeL ls) := by
  refine ⟨?_, ?_, ?_⟩
  · unfold lenE
    rw [List.length_map]
    have : (∃ k ∈ ls.map (·.2.length), 1048576 < k) ↔ longL ls := by
      unfold longL
      constructor
      · rintro ⟨k, hk, h⟩
        obtain ⟨p, hp, rfl⟩ := List.mem_map.1 hk
        exact ⟨p, hp, h⟩
      · rintro ⟨p, hp, h⟩
        exact ⟨_, List.mem_map.2 ⟨p, hp, rfl⟩, h⟩
    simp only [this]
  · cases ls with
    | nil => rfl
    | cons p r => rfl
  · simp
def batC (x : BatD) (vi vl : Value) : List Value := [.int .i64 x.round, .int .i64 x.chain, vi, vl]
theorem RNums.form {A : Nat → Prop} {w : World} {v : Value} {xs : List Nat} (h : RNums A w [v] xs) : ∃ a c, v = .slice a xs.length c ∧ Us w a c xs ∧ (∀ ad, a = some ad → xs ≠ [] → ¬ A ad.block) ∧ ∀ x ∈ xs, x < M64 := by
  obtain ⟨a, c, e, h1⟩ := h
  exact ⟨a, c, by simpa using e, h1⟩
theorem Batch1_ok (g : Nat) (x : BatD) (vi : Value) (ao : Option Addr) (c : Nat) (A : Nat → Prop) (i : Nat) (w : World) (hB : Bk w g (batC x vi (.slice ao x.lets.length c))) (hE : Els A w 33 RLet ao c x.lets) (hi : i < x.lets.length) :
    Ct Try.prog 50 #[.int .i64 (i : Int), .pointer (some ⟨g, 0, none⟩)] w (fun v w' => v = .int .i64 ((x.lets[i].2.length : Nat) : Int) ∧ w = w') := by
  refine Ct.enter [(0, .int .i64 (i : Int)), (1, .pointer (some ⟨g, 0, none⟩))] Try.func50 rfl rfl rfl rfl ?_
  refine C.seq ?_
  refine C.region ?_
  refine W.assign rfl rfl ?_
  refine W.nil ?_
  refine At.thenCode ?_
  refine C.seq ?_
  refine C.region ?_
  refine W.fieldB (off := 3) (size := 1) (t := 31) (Fld.of (by kernel_rfl)) rfl rfl rfl ?_
  refine W.loadB rfl Try.underlying31 rfl (by assumption) rfl rfl ?_
  refine W.move rfl rfl ?_
  refine W.indexE ELet Try.underlying31 rfl hE rfl hi rfl ?_
  rintro ad7 cs7 hc7 ⟨v7, rfl, hR7, hx7⟩ _
  obtain ⟨a7, c7, rfl, hs7, _⟩ := hR7.form
  refine W.fieldAddr (off := 32) (size := 1) (t := 51) (Fld.of (by kernel_rfl)) rfl rfl rfl ?_
  refine W.loadC (v := .slice a7 x.lets[i].2.length c7) hc7 (by rw [List.getElem?_append_right (by rw [List.length_map]; omega), List.length_map, hx7]; rfl) rfl Try.underlying51 rfl rfl ?_
  refine W.lenS rfl Try.underlying51 rfl ?_
  refine W.assign rfl rfl ?_
  refine W.nil ?_
  refine At.thenCode ?_
  refine C.ret ?_
  refine At.ret1 Try.results50 rfl ?_
  exact ⟨rfl, rfl⟩
theorem Batch_ok (x : BatD) (vi vl : Value) (w : World) (hI : RNums (fun _ => False) w [vi] x.inner) (hL : RSl 33 RLet (fun _ => False) w [vl] x.lets) (ho : BatOk x) (hlenI : x.inner.length ≤ 9223372036854775807) (hlen : x.lets.length ≤ 9223372036854775807) (hbox : ∀ p ∈ x.lets, p.2.length ≤ 9223372036854775807) :
    Ct Try.prog 31 #[.agg (batC x vi vl).toArray] w (fun v w' => ∃ ao' c', v = .tuple #[.slice ao' (batB x).length c', .int .i64 (batE x : Int)] ∧ NewB w w' ao' c' (batB x) ∧ Ext w w') := by
  refine Ct.enter [(0, .agg (batC x vi vl).toArray)] Try.func31 rfl rfl rfl rfl ?_
  obtain ⟨hl1, hl2, hl3⟩ := lets_lens x.lets
  obtain ⟨ao, c, rfl, hE⟩ := hL.form
  obtain ⟨aI, cI, rfl, hU, _, hUl⟩ := hI.form
  have hEb : Els (fun k => w.heap.size ≤ k) w 33 RLet ao c x.lets := hE.new rLet fun k h1 h2 => by omega
  obtain ⟨hor, hoc, hoi, hol⟩ := ho
  refine C.seq ?_
  refine C.region ?_
  refine W.box (batC x (.slice aI x.inner.length cI) (.slice ao x.lets.length c)) rfl rfl rfl ?_
  intro g1 w1 hg1 hX1 hB1
  have hE1 := hE.ext rLet hX1
  refine W.assign rfl rfl ?_
  refine W.assign rfl rfl ?_
  refine W.nil ?_
  refine At.thenCode ?_
  refine C.seq ?_
  refine C.seq ?_
  refine C.region ?_
  refine W.fieldB (off := 2) (size := 1) (t := 30) (Fld.of (by kernel_rfl)) rfl rfl rfl ?_
  refine W.loadB rfl Try.underlying30 rfl (by assumption) rfl rfl ?_
  refine W.lenS rfl Try.underlying30 rfl ?_
  refine W.gtrI rfl rfl rfl ?_
  refine W.nil ?_
  refine At.thenCode ?_
  first | refine C.condD rfl (fun c13 => ?_) (fun c13 => ?_) | refine C.cond rfl (fun c13 => ?_) (fun c13 => ?_)
  · have hEE : batE x = 3 := by unfold batE; rw [if_pos (Or.inl (by omega))]
    have hEB : batB x = [] := by unfold batB; rw [hEE]; rfl
    refine C.seq ?_
    refine C.region ?_
    refine W.assign rfl rfl ?_
    refine W.assign rfl rfl ?_
    refine W.nil ?_
    refine At.thenCode ?_
    refine C.ret ?_
    refine At.thenRet ?_
    refine At.ret2 Try.results31 rfl rfl ?_
    first
    | exact ⟨aR, cR, by rw [hEE]; rfl, hNR, hXl⟩
    | exact ⟨none, 0, by rw [hEB, hEE]; rfl, by rw [hEB]; exact NewB.nil _ _, hX1⟩
    | exact ⟨none, 0, by rw [hEB, hEE, hl1]; rfl, by rw [hEB]; exact NewB.nil _ _, hX1⟩
    | (have hEE : batE x = 1 := by
         unfold batE; rw [if_neg hshort3, if_pos]
         first
         | exact Or.inl (by omega)
         | exact Or.inr (Or.inl (by omega))
       have hEB : batB x = [] := by unfold batB; rw [hEE]; rfl
       exact ⟨none, 0, by rw [hEB, hEE]; rfl, by rw [hEB]; exact NewB.nil _ _, hX1⟩)
  · refine C.skip ?_
    refine At.thenCode ?_
    refine C.seq ?_
    refine C.region ?_
    refine W.fieldB (off := 3) (size := 1) (t := 31) (Fld.of (by kernel_rfl)) rfl rfl rfl ?_
    refine W.loadB rfl Try.underlying31 rfl (by assumption) rfl rfl ?_
    refine W.lenS rfl Try.underlying31 rfl ?_
    refine W.makeFunc rfl rfl ?_
    have hfv : FvNat Try.prog (.func (.func 50) #[] #[.pointer (some ⟨g1, 0, none⟩)]) (x.lets.map (·.2.length)) w1 := by
      refine ⟨_, _, rfl, Try.call50, fun i hi => ?_⟩
      have hi' : i < x.lets.length := by simpa using hi
      have := Batch1_ok g1 x _ ao c _ i w1 hB1 hE1 hi'
      simpa using this
    have hlc := Cod.lengths_ok 1000 (x.lets.map (·.2.length)) _ w1 hfv (by omega) (by simpa using hlen) (by intro k hk; obtain ⟨p, hp, rfl⟩ := List.mem_map.1 hk; exact hbox p hp)
    rw [List.length_map] at hlc
    refine W.call Try.call49 rfl hlc rfl ?_
    rintro v14 w14 ⟨rfl, rfl⟩
    refine W.move rfl rfl ?_
    refine W.extract rfl rfl rfl ?_
    refine W.extract rfl rfl rfl ?_
    refine W.extract rfl rfl rfl ?_
    refine W.assign rfl rfl ?_
    refine W.assign rfl rfl ?_
    refine W.assign rfl rfl ?_
    refine W.nil ?_
    refine At.thenCode ?_
    refine C.seq ?_
    refine C.seq ?_
    refine C.region ?_
    refine W.move rfl rfl ?_
    refine W.neqI rfl rfl rfl ?_
    refine W.nil ?_
    refine At.thenCode ?_
    first | refine C.condD rfl (fun c24 => ?_) (fun c24 => ?_) | refine C.cond rfl (fun c24 => ?_) (fun c24 => ?_)
    · have he3 : lenE 1000 (x.lets.map (·.2.length)) ≠ 0 := by omega
      have hlong : 1000 < x.lets.length ∨ longL x.lets := by
        by_cases h : 1000 < x.lets.length ∨ longL x.lets
        · exact h
        · rw [if_neg h] at hl1; exact absurd hl1 he3
      rw [if_pos hlong] at hl1
      have hEE : batE x = 3 := by unfold batE; rw [if_pos (Or.inr hlong)]
      have hEB : batB x = [] := by unfold batB; rw [hEE]; rfl
      refine C.seq ?_
      refine C.region ?_
      refine W.move rfl rfl ?_
      refine W.assign rfl rfl ?_
      refine W.assign rfl rfl ?_
      refine W.nil ?_
      refine At.thenCode ?_
      refine C.ret ?_
      refine At.thenRet ?_
      refine At.ret2 Try.results31 rfl rfl ?_
      first
      | exact ⟨aR, cR, by rw [hEE]; rfl, hNR, hXl⟩
      | exact ⟨none, 0, by rw [hEB, hEE]; rfl, by rw [hEB]; exact NewB.nil _ _, hX1⟩
      | exact ⟨none, 0, by rw [hEB, hEE, hl1]; rfl, by rw [hEB]; exact NewB.nil _ _, hX1⟩
      | (have hEE : batE x = 1 := by
           unfold batE; rw [if_neg hshort3, if_pos]
           first
           | exact Or.inl (by omega)
           | exact Or.inr (Or.inl (by omega))
         have hEB : batB x = [] := by unfold batB; rw [hEE]; rfl
         exact ⟨none, 0, by rw [hEB, hEE]; rfl, by rw [hEB]; exact NewB.nil _ _, hX1⟩)
    · have he0 : lenE 1000 (x.lets.map (·.2.length)) = 0 := by omega
      have hshort : ¬ (1000 < x.lets.length ∨ longL x.lets) := by
        intro h; rw [if_pos h] at hl1; omega
      have hin20 : x.inner.length ≤ 20 := by omega
      have hn1000 : x.lets.length ≤ 1000 := by have := fun c => hshort (Or.inl c); omega
      have hbox20 : ∀ p ∈ x.lets, p.2.length ≤ 1048576 := fun p hp => by
        have : ¬ 1048576 < p.2.length := fun c => hshort (Or.inr ⟨p, hp, c⟩)
        omega
      have hshort3 : ¬ (20 < x.inner.length ∨ 1000 < x.lets.length ∨ longL x.lets) := by
        rintro (h | h)
        · omega
        · exact hshort h
      have hlA : lenA 1000 (x.lets.map (·.2.length)) = (x.lets.map (·.2.length)).all (· == sizeL x.lets) := by unfold lenA; rw [if_pos he0, hl2]
      have hlF : lenF 1000 (x.lets.map (·.2.length)) = sizeL x.lets := by unfold lenF; rw [if_pos he0, hl2]
      refine C.skip ?_
      refine At.thenCode ?_
      refine C.seq ?_
      refine C.seq ?_
      refine C.region ?_
      refine W.fieldB (off := 0) (size := 1) (t := 3) (Fld.of (by kernel_rfl)) rfl rfl rfl ?_
      refine W.loadB rfl Try.underlying3 rfl (by assumption) rfl rfl ?_
      refine W.lssI rfl rfl rfl ?_
      refine W.move rfl rfl ?_
      first | refine W.splitD (fun g29 => ?_) (fun g29 => ?_) | refine W.splitB (fun g29 => ?_) (fun g29 => ?_)
      · refine W.skips rfl rfl rfl rfl rfl rfl ?_
        refine W.skips rfl rfl rfl rfl rfl rfl ?_
        refine W.skips rfl rfl rfl rfl rfl rfl ?_
        refine W.pickT rfl rfl rfl ?_
        refine W.move rfl rfl ?_
        refine W.skips rfl rfl rfl rfl rfl rfl ?_
        refine W.skips rfl rfl rfl rfl rfl rfl ?_
        refine W.pickT rfl rfl rfl ?_
        refine W.nil ?_
        refine At.thenCode ?_
        refine C.condT rfl ?_
        refine C.seq ?_
        refine C.region ?_
        refine W.assign rfl rfl ?_
        refine W.assign rfl rfl ?_
        refine W.nil ?_
        refine At.thenCode ?_
        refine C.ret ?_
        refine At.thenRet ?_
        refine At.ret2 Try.results31 rfl rfl ?_
        first
        | exact ⟨aR, cR, by rw [hEE]; rfl, hNR, hXl⟩
        | exact ⟨none, 0, by rw [hEB, hEE]; rfl, by rw [hEB]; exact NewB.nil _ _, hX1⟩
        | exact ⟨none, 0, by rw [hEB, hEE, hl1]; rfl, by rw [hEB]; exact NewB.nil _ _, hX1⟩
        | (have hEE : batE x = 1 := by
             unfold batE; rw [if_neg hshort3, if_pos]
             first
             | exact Or.inl (by omega)
             | exact Or.inr (Or.inl (by omega))
           have hEB : batB x = [] := by unfold batB; rw [hEE]; rfl
           exact ⟨none, 0, by rw [hEB, hEE]; rfl, by rw [hEB]; exact NewB.nil _ _, hX1⟩)
      · refine W.wants rfl rfl rfl rfl ?_
        refine W.fieldB (off := 1) (size := 1) (t := 3) (Fld.of (by kernel_rfl)) rfl rfl rfl ?_
        refine W.wants rfl rfl rfl rfl ?_
        refine W.loadB rfl Try.underlying3 rfl (by assumption) rfl rfl ?_
        refine W.wants rfl rfl rfl rfl ?_
        refine W.lssI rfl rfl rfl ?_
        refine W.pickF rfl rfl rfl ?_
        refine W.move rfl rfl ?_
        first | refine W.splitD (fun g34 => ?_) (fun g34 => ?_) | refine W.splitB (fun g34 => ?_) (fun g34 => ?_)
        · refine W.skips rfl rfl rfl rfl rfl rfl ?_
          refine W.skips rfl rfl rfl rfl rfl rfl ?_
          refine W.pickT rfl rfl rfl ?_
          refine W.nil ?_
          refine At.thenCode ?_
          refine C.condT rfl ?_
          refine C.seq ?_
          refine C.region ?_
          refine W.assign rfl rfl ?_
          refine W.assign rfl rfl ?_
          refine W.nil ?_
          refine At.thenCode ?_
          refine C.ret ?_
          refine At.thenRet ?_
          refine At.ret2 Try.results31 rfl rfl ?_
          first
          | exact ⟨aR, cR, by rw [hEE]; rfl, hNR, hXl⟩
          | exact ⟨none, 0, by rw [hEB, hEE]; rfl, by rw [hEB]; exact NewB.nil _ _, hX1⟩
          | exact ⟨none, 0, by rw [hEB, hEE, hl1]; rfl, by rw [hEB]; exact NewB.nil _ _, hX1⟩
          | (have hEE : batE x = 1 := by
               unfold batE; rw [if_neg hshort3, if_pos]
               first
               | exact Or.inl (by omega)
               | exact Or.inr (Or.inl (by omega))
             have hEB : batB x = [] := by unfold batB; rw [hEE]; rfl
             exact ⟨none, 0, by rw [hEB, hEE]; rfl, by rw [hEB]; exact NewB.nil _ _, hX1⟩)
        · refine W.wants rfl rfl rfl rfl ?_
          refine W.move rfl rfl ?_
          refine W.wants rfl rfl rfl rfl ?_
          first | refine W.notD rfl rfl ?_ | refine W.notB rfl rfl ?_
          refine W.pickF rfl rfl rfl ?_
          refine W.nil ?_
          refine At.thenCode ?_
          first | refine C.condD rfl (fun c37 => ?_) (fun c37 => ?_) | refine C.cond rfl (fun c37 => ?_) (fun c37 => ?_)
          · have hEE : batE x = 1 := by
              unfold batE; rw [if_neg hshort3, if_pos]
              first
              | exact Or.inl (by assumption)
              | exact Or.inr (Or.inl (by assumption))
              | (refine Or.inr (Or.inr ?_)
                 by_cases h : wrongL x.lets
                 · exact h
                 · have : (x.lets.map (·.2.length)).all (· == sizeL x.lets) = true := hl3.2 fun p hp => by
                     by_cases e : p.2.length = sizeL x.lets
                     · exact e
                     · exact absurd ⟨p, hp, e⟩ h
                   simp_all)
            have hEB : batB x = [] := by unfold batB; rw [hEE]; rfl
            refine C.seq ?_
            refine C.region ?_
            refine W.assign rfl rfl ?_
            refine W.assign rfl rfl ?_
            refine W.nil ?_
            refine At.thenCode ?_
            refine C.ret ?_
            refine At.thenRet ?_
            refine At.ret2 Try.results31 rfl rfl ?_
            first
            | exact ⟨aR, cR, by rw [hEE]; rfl, hNR, hXl⟩
            | exact ⟨none, 0, by rw [hEB, hEE]; rfl, by rw [hEB]; exact NewB.nil _ _, hX1⟩
            | exact ⟨none, 0, by rw [hEB, hEE, hl1]; rfl, by rw [hEB]; exact NewB.nil _ _, hX1⟩
            | (have hEE : batE x = 1 := by
                 unfold batE; rw [if_neg hshort3, if_pos]
                 first
                 | exact Or.inl (by omega)
                 | exact Or.inr (Or.inl (by omega))
               have hEB : batB x = [] := by unfold batB; rw [hEE]; rfl
               exact ⟨none, 0, by rw [hEB, hEE]; rfl, by rw [hEB]; exact NewB.nil _ _, hX1⟩)
          · have hallk : ∀ p ∈ x.lets, p.2.length = sizeL x.lets := hl3.1 (by rw [← hlA]; simpa using c37)
            have hr0 : 0 ≤ x.round := by omega
            have hc0 : 0 ≤ x.chain := by omega
            have hEE : batE x = 0 := by
              unfold batE; rw [if_neg hshort3, if_neg]
              rintro (h | h | ⟨p, hp, hq⟩)
              · omega
              · omega
              · exact hq (hallk p hp)
            have hEB : batB x = be64 x.round.toNat ++ (be64 x.chain.toNat ++ (be64 x.inner.length ++ (putsL x.inner ++ (be64 x.lets.length ++ (be64 (sizeL x.lets) ++ encLets x.lets))))) := by unfold batB; rw [if_pos hEE]
            have hsz20 : sizeL x.lets ≤ 1048576 := by
              cases hq : x.lets with
              | nil => exact Nat.zero_le _
              | cons p r => exact hbox20 p (by rw [hq]; simp)
            refine C.skip ?_
            refine At.thenCode ?_
            refine C.seq ?_
            refine C.region ?_
            refine W.buildS (fs := _) [(0, 1)] [.slice none 0 0] [.slice none 0 0] Try.underlying106 (by kernel_rfl) (by kernel_rfl) rfl rfl rfl ?_
            refine W.box [.slice none 0 0] rfl rfl rfl ?_
            intro g39 w39 hg39 hX39 hB39
            have hX39a := hX1.ext hX39
            have hW39 : Wr w39 g39 w.heap.size [] := Wr.mk' (by have := hX1.size; omega) hB39
            have hB1a := hB1.ext hX39
            have hn39 : ¬ WS w39 g39 g1 := by
              rintro (rfl | ⟨q, h1, h2⟩)
              · have := hB1.lt; omega
              · obtain rfl := Bk.one hB39 h1; cases h2
            refine W.assign rfl rfl ?_
            refine W.nil ?_
            refine At.thenCode ?_
            refine C.seq ?_
            refine C.region ?_
            refine W.move rfl rfl ?_
            refine W.fieldB (off := 0) (size := 1) (t := 3) (Fld.of (by kernel_rfl)) rfl rfl rfl ?_
            refine W.loadB rfl Try.underlying3 rfl (by assumption) rfl rfl ?_
            first | refine W.convIN (M := 18446744073709551616) rfl Try.underlying3 Try.underlying41 rfl rfl (by omega) rfl ?_ | refine W.convIU (M := 18446744073709551616) rfl Try.underlying3 Try.underlying41 rfl rfl rfl ?_
            refine W.eqv (v' := u64V x.round.toNat) (iV (by omega)) ?_
            refine W.fieldB (off := 1) (size := 1) (t := 3) (Fld.of (by kernel_rfl)) rfl rfl rfl ?_
            refine W.loadB rfl Try.underlying3 rfl (by assumption) rfl rfl ?_
            first | refine W.convIN (M := 18446744073709551616) rfl Try.underlying3 Try.underlying41 rfl rfl (by omega) rfl ?_ | refine W.convIU (M := 18446744073709551616) rfl Try.underlying3 Try.underlying41 rfl rfl rfl ?_
            refine W.eqv (v' := u64V x.chain.toNat) (iV (by omega)) ?_
            refine W.fieldB (off := 2) (size := 1) (t := 30) (Fld.of (by kernel_rfl)) rfl rfl rfl ?_
            refine W.loadB rfl Try.underlying30 rfl (by assumption) rfl rfl ?_
            refine W.lenS rfl Try.underlying30 rfl ?_
            first | refine W.convIN (M := 18446744073709551616) rfl Try.underlying3 Try.underlying41 rfl rfl (by omega) rfl ?_ | refine W.convIU (M := 18446744073709551616) rfl Try.underlying3 Try.underlying41 rfl rfl rfl ?_
            refine W.eqv (v' := u64V x.inner.length) (iV (by omega)) ?_
            refine W.litV ([x.round.toNat, x.chain.toNat, x.inner.length].map u64V) U64 Try.underlying30 rfl rfl (u64_oneCell _) rfl rfl rfl ?_
            intro g51 w51 hg51 hX51 _ hs51
            have hP51 := hW39.ext hX51
            refine W.call Try.call51 rfl (Cod.put_ok g39 _ _ 3 [x.round.toNat, x.chain.toNat, x.inner.length] _ _ hP51.wr hs51 (fun ad e _ hc => by obtain rfl := Option.some.inj e; exact hW39.fresh hX51 (k := g51) (by omega) hc) (by simp)) rfl ?_
            rintro v52 w52 ⟨rfl, hP52⟩
            have hX52 := hP52.old hP51.wr (Nat.le_refl _) (hX39a.ext hX51)
            have hn51 : ¬ WS w51 g39 g1 := fun hc => by
              rcases hP51.ws _ hc with h | h
              · exact hn39 h
              · have := hB1a.lt; omega
            have hB52 := hP52.bk (hB1a.ext hX51) hn51
            have hn52 : ¬ WS w52 g39 g1 := fun hc => by
              rcases hP52.ws _ hc with h | h
              · exact hn51 h
              · have := (hB1a.ext hX51).lt; omega
            refine W.nil ?_
            refine At.thenCode ?_
            refine C.seq ?_
            refine C.region ?_
            refine W.move rfl rfl ?_
            refine W.fieldB (off := 2) (size := 1) (t := 30) (Fld.of (by kernel_rfl)) rfl rfl rfl ?_
            refine W.loadB rfl Try.underlying30 rfl (by assumption) rfl rfl ?_
            have hU52 : Us w52 aI cI x.inner := hU.ext hX52
            refine W.call Try.call51 rfl (Cod.put_ok g39 _ _ _ x.inner _ _ hP52.wr hU52 (fun ad e hne hc => by have h1 := (hP52.wr.lt hc).1; have h2 := hU.blk e (by simpa using hne); omega) (by simp [putsL, be64_length]; omega)) rfl ?_
            rintro v56 w56 ⟨rfl, hP56⟩
            have hX56 := hP56.old hP52.wr (Nat.le_refl _) hX52
            have hB56 := hP56.bk hB52 hn52
            have hn56 : ¬ WS w56 g39 g1 := fun hc => by
              rcases hP56.ws _ hc with h | h
              · exact hn52 h
              · have := hB52.lt; omega
            have hplI := putsL_length x.inner
            refine W.nil ?_
            refine At.thenCode ?_
            refine C.seq ?_
            refine C.region ?_
            refine W.move rfl rfl ?_
            refine W.fieldB (off := 3) (size := 1) (t := 31) (Fld.of (by kernel_rfl)) rfl rfl rfl ?_
            refine W.loadB rfl Try.underlying31 rfl (by assumption) rfl rfl ?_
            refine W.lenS rfl Try.underlying31 rfl ?_
            first | refine W.convIN (M := 18446744073709551616) rfl Try.underlying3 Try.underlying41 rfl rfl (by omega) rfl ?_ | refine W.convIU (M := 18446744073709551616) rfl Try.underlying3 Try.underlying41 rfl rfl rfl ?_
            refine W.eqv (v' := u64V x.lets.length) (iV (by omega)) ?_
            refine W.move rfl rfl ?_
            first | refine W.convIN (M := 18446744073709551616) rfl Try.underlying3 Try.underlying41 rfl rfl (by omega) rfl ?_ | refine W.convIU (M := 18446744073709551616) rfl Try.underlying3 Try.underlying41 rfl rfl rfl ?_
            refine W.eqv (v' := u64V (sizeL x.lets)) (iV (by rw [hlF]; omega)) ?_
            refine W.litV ([x.lets.length, sizeL x.lets].map u64V) U64 Try.underlying30 rfl rfl (u64_oneCell _) rfl rfl rfl ?_
            intro g64 w64 hg64 hX64 _ hs64
            have hP64 := hP56.wr.ext hX64
            refine W.call Try.call51 rfl (Cod.put_ok g39 _ _ 2 [x.lets.length, sizeL x.lets] _ _ hP64.wr hs64 (fun ad e _ hc => by obtain rfl := Option.some.inj e; exact hP56.wr.fresh hX64 (k := g64) (by omega) hc) (by simp [putsL, be64_length]; omega)) rfl ?_
            rintro v65 w65 ⟨rfl, hP65⟩
            have hX65 := hP65.old hP64.wr (Nat.le_refl _) (hX56.ext hX64)
            have hn64 : ¬ WS w64 g39 g1 := fun hc => by
              rcases hP64.ws _ hc with h | h
              · exact hn56 h
              · have := hB56.lt; omega
            have hB65 := hP65.bk (hB56.ext hX64) hn64
            obtain ⟨pre, hpre⟩ : ∃ pre, pre = be64 x.round.toNat ++ (be64 x.chain.toNat ++ (be64 x.inner.length ++ (putsL x.inner ++ (be64 x.lets.length ++ be64 (sizeL x.lets))))) := ⟨_, rfl⟩
            have hprel : pre.length ≤ 200 := by rw [hpre]; simp only [List.length_append, be64_length]; omega
            have hEB2 : batB x = pre ++ encLets x.lets := by rw [hEB, hpre]; simp only [List.append_assoc]
            have hW65 : Wr w65 g39 w.heap.size pre := by
              have := hP65.wr
              rw [hpre]
              simpa [putsL] using this
            refine W.nil ?_
            refine At.thenCode ?_
            refine C.seq ?_
            refine C.seq ?_
            refine C.region ?_
            refine W.fieldB (off := 3) (size := 1) (t := 31) (Fld.of (by kernel_rfl)) rfl rfl rfl ?_
            refine W.loadB rfl Try.underlying31 rfl (by assumption) rfl rfl ?_
            refine W.lenS rfl Try.underlying31 rfl ?_
            refine W.move rfl rfl ?_
            refine W.nil ?_
            refine At.thenCode ?_
            refine C.block ?_
            refine C.loop (X := Nat) (fun x_ => [(7, .pointer (some ⟨g39, 0, none⟩)), (67, .slice ao x.lets.length c), (68, .int .i64 (x.lets.length : Int)), (69, .int .i64 (x_ : Int))]) (fun x_ wl => x_ ≤ x.lets.length ∧ Ext w wl ∧ Wr wl g39 w.heap.size (pre ++ encLets (x.lets.take x_))) (fun x_ => x.lets.length - x_) (0) (Sub.cons (rfl) (Sub.cons (rfl) (Sub.cons (rfl) (Sub.cons (rfl) (Sub.nil))))) ?start1 ?_
            case start1 =>
              show (0) ≤ x.lets.length ∧ Ext w _ ∧ Wr _ g39 w.heap.size (pre ++ encLets (x.lets.take (0)))
              exact ⟨by omega, hX65, by simpa [encLets] using hW65⟩
            rintro i wl hI_
            replace hI_ : i ≤ x.lets.length ∧ Ext w wl ∧ Wr wl g39 w.heap.size (pre ++ encLets (x.lets.take i)) := hI_
            obtain ⟨hi, hXl, hWl⟩ := hI_
            refine C.weaken (l' := [(7, .pointer (some ⟨g39, 0, none⟩)), (67, .slice ao x.lets.length c), (68, .int .i64 (x.lets.length : Int)), (69, .int .i64 (i : Int))]) (Sub.cons (rfl) (Sub.cons (rfl) (Sub.cons (rfl) (Sub.cons (rfl) (Sub.nil))))) ?_
            refine C.seq ?_
            refine C.region ?_
            refine W.lssI rfl rfl rfl ?_
            refine W.nil ?_
            refine At.thenCode ?_
            refine C.seq ?_
            first | refine C.condD rfl (fun c70 => ?_) (fun c70 => ?_) | refine C.cond rfl (fun c70 => ?_) (fun c70 => ?_)
            · have hlt : i < x.lets.length := by omega
              have hEl := hEb.ext rLet hXl
              have hmem : x.lets[i] ∈ x.lets := List.getElem_mem hlt
              have hlen1 : (encLets (x.lets.take i)).length ≤ 1000 * (32 + 1048576) := by
                have := encLets_le (l := x.lets.take i) (m := 1048576) (fun p hp => ⟨hbox20 p (List.mem_of_mem_take hp), hol p (List.mem_of_mem_take hp)⟩)
                have h2 : (x.lets.take i).length ≤ 1000 := by rw [List.length_take]; omega
                exact Nat.le_trans this (Nat.mul_le_mul_right (32 + 1048576) h2)
              have hlen2 : 1000 * (32 + 1048576) = 1048608000 := by decide
              rw [hlen2] at hlen1
              have hto := hol _ hmem
              refine C.skip ?_
              refine At.thenCode ?_
              refine C.seq ?_
              refine C.block ?_
              refine C.seq ?_
              refine C.region ?_
              refine W.indexE ELet Try.underlying31 rfl hEl rfl hlt rfl ?_
              rintro ad71 cs71 hc71 ⟨v71, rfl, hR71, hx71⟩ hl71
              obtain ⟨a71, c71, rfl, hs71, _⟩ := hR71.form
              refine W.loadA rfl hc71 Try.underlying53 rfl (by rw [hl71]; kernel_rfl) rfl ?_
              refine W.alloc (z := .agg (List.replicate 32 (byteV 0) ++ [Value.slice none 0 0]).toArray) (List.replicate 32 (byteV 0) ++ [Value.slice none 0 0]) (by kernel_rfl) rfl rfl ?_
              intro g9 w9 hg9 hX9 hB9
              refine W.storeA (x.lets[i].1.map byteV ++ [.slice a71 x.lets[i].2.length c71]) rfl rfl hB9 (by rw [hl71]; rfl) (by rw [hl71]; kernel_rfl) (by intro u hu; rcases List.mem_append.1 hu with h | h; exact bytes_oneCell _ u h; obtain rfl := List.mem_singleton.1 h; rfl) ?_
              intro w10 hc10 hB10
              have hXl10 : Ext wl w10 := hX9.news hc10 fun k hk => Or.inr (by omega)
              have hP10 := hWl.ext hXl10
              have hX10 := hXl.ext hXl10
              have hn9 : ¬ WS w10 g39 g9 := hWl.fresh hXl10 (by omega)
              refine W.nil ?_
              refine At.thenCode ?_
              refine C.seq ?_
              refine C.region ?_
              refine W.move rfl rfl ?_
              refine W.fieldB (off := 0) (size := 32) (t := 50) (Fld.of (by kernel_rfl)) rfl rfl rfl ?_
              refine W.sliceA X8 Try.underlying50 rfl rfl ?_
              have hs76 : Bs w10 (some ⟨g9, 0, none⟩) 32 x.lets[i].1 := by
                have := Bk.bs (o := 0) (xs := x.lets[i].1) hB10 (by rw [List.drop_zero, List.take_append_of_le_length (by simp), List.take_of_length_le (by simp)])
                rwa [hto] at this
              have hby := Cod.bytes_ok g39 _ (some ⟨g9, 0, none⟩) 32 x.lets[i].1 _ _ hP10.wr hs76 (by simp; omega)
              rw [hto] at hby
              refine W.call Try.call52 rfl hby rfl ?_
              rintro v76 w76 ⟨rfl, hP76⟩
              have hX76 := hP76.old hP10.wr (Nat.le_refl _) hX10
              have hB76 := hP76.bk hB10 hn9
              refine W.nil ?_
              refine At.thenCode ?_
              refine C.region ?_
              refine W.move rfl rfl ?_
              refine W.fieldB (off := 32) (size := 1) (t := 51) (Fld.of (by kernel_rfl)) rfl rfl rfl ?_
              refine W.loadB (v := .slice a71 x.lets[i].2.length c71) rfl Try.underlying51 rfl hB76 (by rw [List.getElem?_append_right (by rw [List.length_map, hto]; decide), List.length_map, hto]; rfl) rfl ?_
              have hR76 := rByt.chg hR71 ((hXl10.mono fun k hk => hk.elim).trans (hP76.chgB hP10.wr))
              obtain ⟨a51, c51, e51, hs51', _⟩ := hR76.form
              obtain ⟨rfl, rfl⟩ : a71 = a51 ∧ c71 = c51 := by injection e51 with h1 _ h3; exact ⟨h1, h3⟩
              refine W.call Try.call52 rfl (Cod.bytes_ok g39 _ _ _ x.lets[i].2 _ _ hP76.wr hs51' (by simp; have := hbox20 _ hmem; omega)) rfl ?_
              rintro v80 w80 ⟨rfl, hP80⟩
              refine W.nil ?_
              refine At.blockNormal ?_
              refine At.thenCode ?_
              refine C.region ?_
              first | refine W.addI rfl rfl (by omega) rfl ?_ | refine W.addW rfl rfl rfl ?_
              refine W.move rfl rfl ?_
              refine W.nil ?_
              refine At.thenRound (i + 1) (Sub.cons (rfl) (Sub.cons (rfl) (Sub.cons (rfl) (Sub.cons (look_eq rfl (iV (by omega))) (Sub.nil))))) (show (i + 1) ≤ x.lets.length ∧ Ext w _ ∧ Wr _ g39 w.heap.size (pre ++ encLets (x.lets.take (i + 1))) from ?_) (show x.lets.length - (i + 1) < x.lets.length - i from ?_)
              · refine ⟨by omega, hP80.old hP76.wr (Nat.le_refl _) hX76, ?_⟩
                rw [encLets_take hlt]
                have := hP80.wr
                simpa using this
              · omega
            · obtain rfl : i = x.lets.length := by omega
              rw [List.take_length, ← hEB2] at hWl
              obtain ⟨aR, cR, hBR, hNR⟩ := wr_end hWl (Nat.le_refl w.heap.size)
              refine C.exit ?_
              refine At.thenExit ?_
              refine At.thenExit ?_
              refine At.blockSelf ?_
              refine At.thenCode ?_
              refine C.seq ?_
              refine C.region ?_
              refine W.move rfl rfl ?_
              refine W.nilCheck rfl rfl ?_
              refine W.fieldB (off := 0) (size := 1) (t := 51) (Fld.of (by kernel_rfl)) rfl rfl rfl ?_
              refine W.loadB rfl Try.underlying51 rfl (by assumption) rfl rfl ?_
              refine W.assign rfl rfl ?_
              refine W.assign rfl rfl ?_
              refine W.nil ?_
              refine At.thenCode ?_
              refine C.ret ?_
              refine At.ret2 Try.results31 rfl rfl ?_
              first
              | exact ⟨aR, cR, by rw [hEE]; rfl, hNR, hXl⟩
              | exact ⟨none, 0, by rw [hEB, hEE]; rfl, by rw [hEB]; exact NewB.nil _ _, hX1⟩
              | exact ⟨none, 0, by rw [hEB, hEE, hl1]; rfl, by rw [hEB]; exact NewB.nil _ _, hX1⟩
              | (have hEE : batE x = 1 := by
                   unfold batE; rw [if_neg hshort3, if_pos]
                   first
                   | exact Or.inl (by omega)
                   | exact Or.inr (Or.inl (by omega))
                 have hEB : batB x = [] := by unfold batB; rw [hEE]; rfl
                 exact ⟨none, 0, by rw [hEB, hEE]; rfl, by rw [hEB]; exact NewB.nil _ _, hX1⟩)
end Go.Proofs.Ythiijdbiikljpaa.Cod
