/- The reference's functions that write: rows of entries. -/
import Derived.Test.YtpjdkobmcjgcjaaCodN
import Derived.Test.YtpjdkobmcjgcjaaCodC
namespace Go.Proofs.Ytpjdkobmcjgcjaa.Cod
open Go Go.RowKit Go.Proofs.Ytpjdkobmcjgcjaa.KW Go.Proofs.Ytpjdkobmcjgcjaa.Words Go.Proofs.Ytpjdkobmcjgcjaa.Grp
set_option linter.unusedVariables false
set_option linter.unusedSimpArgs false
set_option maxRecDepth 100000
theorem sizeE_zero {es : List Ent} (h : 0 < es.length) : (es[0]'h).2.length = sizeE es := by
  cases es with
  | nil => simp at h
  | cons p r => rfl
theorem REntries_ok (ao : Option Addr) (c : Nat) (es : List Ent) (w : World) (hE : Els (fun _ => False) w 2 REnt ao c es) (hlen : es.length ≤ 9223372036854775807) (hbox : ∀ p ∈ es, p.2.length ≤ 9223372036854775807) :
    Ct Try.prog 29 #[.slice ao es.length c] w (fun v w' => ∃ ao' c', v = .tuple #[.slice ao' (entsB es).length c', .int .i64 (entsE es : Int)] ∧ NewB w w' ao' c' (entsB es) ∧ Ext w w') := by
  refine Ct.enter [(0, .slice ao es.length c)] Try.func29 rfl rfl rfl rfl ?_
  refine C.seq ?_
  refine C.region ?_
  refine W.assign rfl rfl ?_
  refine W.assign rfl rfl ?_
  refine W.nil ?_
  refine At.thenCode ?_
  refine C.seq ?_
  refine C.seq ?_
  refine C.region ?_
  refine W.move rfl rfl ?_
  refine W.lenS rfl Try.underlying49 rfl ?_
  refine W.gtrI rfl rfl rfl ?_
  refine W.nil ?_
  refine At.thenCode ?_
  first | refine C.condD rfl (fun c10 => ?_) (fun c10 => ?_) | refine C.cond rfl (fun c10 => ?_) (fun c10 => ?_)
  · have hEE : entsE es = 3 := by unfold entsE; rw [if_pos (Or.inl (by omega))]
    have hEB : entsB es = [] := by unfold entsB; rw [hEE]; rfl
    refine C.seq ?_
    refine C.region ?_
    refine W.assign rfl rfl ?_
    refine W.assign rfl rfl ?_
    refine W.nil ?_
    refine At.thenCode ?_
    refine C.ret ?_
    refine At.thenRet ?_
    refine At.ret2 Try.results29 rfl rfl ?_
    first
    | exact ⟨none, 0, by rw [hEB, hEE]; rfl, by rw [hEB]; exact NewB.nil _ _, Ext.refl _⟩
    | exact ⟨none, 0, by rw [hEB, hEE]; rfl, by rw [hEB]; exact NewB.nil _ _, hXl⟩
    | exact ⟨aR, cR, by rw [hEE]; rfl, ⟨hSR, fun ad ea _ => hbR ad ea⟩, hXl⟩
  · have hn1000 : es.length ≤ 1000 := by omega
    refine C.skip ?_
    refine At.thenCode ?_
    refine C.seq ?_
    refine C.region ?_
    refine W.assign rfl rfl ?_
    refine W.nil ?_
    refine At.thenCode ?_
    refine C.seq ?_
    refine C.seq ?_
    refine C.region ?_
    refine W.assign rfl rfl ?_
    refine W.nil ?_
    refine At.thenCode ?_
    refine C.block ?_
    refine C.loop (X := Nat × Nat) (fun x_ => [(0, .slice ao es.length c), (4, .int .i64 (x_.2 : Int)), (5, .int .i64 (x_.1 : Int))]) (fun x_ w1 => w = w1 ∧ x_.1 ≤ es.length ∧ (x_.1 = 0 → x_.2 = 0) ∧ (0 < x_.1 → x_.2 = sizeE es) ∧ ∀ p ∈ es.take x_.1, p.2.length ≤ 1048576) (fun x_ => es.length - x_.1) (0, 0) (Sub.cons (rfl) (Sub.cons (rfl) (Sub.cons (rfl) (Sub.nil)))) ?start1 ?_
    case start1 =>
      show w = _ ∧ (0) ≤ es.length ∧ ((0) = 0 → (0) = 0) ∧ (0 < (0) → (0) = sizeE es) ∧ ∀ p ∈ es.take (0), p.2.length ≤ 1048576
      exact ⟨rfl, by omega, fun _ => rfl, fun h => by omega, by simp⟩
    rintro ⟨i, k⟩ w1 hI_
    replace hI_ : w = w1 ∧ i ≤ es.length ∧ (i = 0 → k = 0) ∧ (0 < i → k = sizeE es) ∧ ∀ p ∈ es.take i, p.2.length ≤ 1048576 := hI_
    obtain ⟨rfl, hi, hk0, hk1, hsm⟩ := hI_
    refine C.weaken (l' := [(0, .slice ao es.length c), (4, .int .i64 (k : Int)), (5, .int .i64 (i : Int))]) (Sub.cons (rfl) (Sub.cons (rfl) (Sub.cons (rfl) (Sub.nil)))) ?_
    refine C.seq ?_
    refine C.seq ?_
    refine C.region ?_
    refine W.move rfl rfl ?_
    refine W.move rfl rfl ?_
    refine W.lenS rfl Try.underlying49 rfl ?_
    refine W.lssI rfl rfl rfl ?_
    refine W.nil ?_
    refine At.thenCode ?_
    first | refine C.condD rfl (fun c14 => ?_) (fun c14 => ?_) | refine C.cond rfl (fun c14 => ?_) (fun c14 => ?_)
    · have hlt : i < es.length := by omega
      have hmem : es[i] ∈ es := List.getElem_mem hlt
      refine C.skip ?_
      refine At.thenCode ?_
      refine C.seq ?_
      refine C.block ?_
      refine C.seq ?_
      refine C.seq ?_
      refine C.region ?_
      refine W.move rfl rfl ?_
      refine W.move rfl rfl ?_
      refine W.indexE EEnt Try.underlying49 rfl hE rfl hlt rfl ?_
      rintro ad19 cs19 hc19 ⟨v19, rfl, hR19, hx19⟩ _
      obtain ⟨a19, c19, rfl, hs19, _⟩ := hR19.form
      refine W.fieldAddr (off := 1) (size := 1) (t := 27) (Fld.of (by kernel_rfl)) rfl rfl rfl ?_
      refine W.loadC hc19 rfl rfl Try.underlying27 rfl rfl ?_
      refine W.lenS rfl Try.underlying27 rfl ?_
      refine W.gtrI rfl rfl rfl ?_
      refine W.nil ?_
      refine At.thenCode ?_
      first | refine C.condD rfl (fun c23 => ?_) (fun c23 => ?_) | refine C.cond rfl (fun c23 => ?_) (fun c23 => ?_)
      · have hEE : entsE es = 3 := by unfold entsE; rw [if_pos (Or.inr ⟨es[i], hmem, by omega⟩)]
        have hEB : entsB es = [] := by unfold entsB; rw [hEE]; rfl
        refine C.seq ?_
        refine C.region ?_
        refine W.assign rfl rfl ?_
        refine W.assign rfl rfl ?_
        refine W.nil ?_
        refine At.thenCode ?_
        refine C.ret ?_
        refine At.thenRet ?_
        refine At.blockRet ?_
        refine At.thenRet ?_
        refine At.thenRet ?_
        refine At.blockRet ?_
        refine At.thenRet ?_
        refine At.ret2 Try.results29 rfl rfl ?_
        first
        | exact ⟨none, 0, by rw [hEB, hEE]; rfl, by rw [hEB]; exact NewB.nil _ _, Ext.refl _⟩
        | exact ⟨none, 0, by rw [hEB, hEE]; rfl, by rw [hEB]; exact NewB.nil _ _, hXl⟩
        | exact ⟨aR, cR, by rw [hEE]; rfl, ⟨hSR, fun ad ea _ => hbR ad ea⟩, hXl⟩
      · refine C.skip ?_
        refine At.thenCode ?_
        refine C.region ?_
        refine W.move rfl rfl ?_
        refine W.indexE (j := 0) EEnt Try.underlying49 rfl hE rfl (by omega) rfl ?_
        rintro ad25 cs25 hc25 ⟨v25, rfl, hR25, hx25⟩ _
        obtain ⟨a25, c25, rfl, hs25, _⟩ := hR25.form
        have hz25 := sizeE_zero (es := es) (by omega)
        refine W.fieldAddr (off := 1) (size := 1) (t := 27) (Fld.of (by kernel_rfl)) rfl rfl rfl ?_
        refine W.loadC hc25 rfl rfl Try.underlying27 rfl rfl ?_
        refine W.lenS rfl Try.underlying27 rfl ?_
        rw [hz25]
        refine W.assign rfl rfl ?_
        refine W.nil ?_
        refine At.blockNormal ?_
        refine At.thenCode ?_
        refine C.region ?_
        refine W.move rfl rfl ?_
        first | refine W.addI rfl rfl (by omega) rfl ?_ | refine W.addW rfl rfl rfl ?_
        refine W.assign rfl rfl ?_
        refine W.nil ?_
        refine At.thenRound (i + 1, sizeE es) (Sub.cons (rfl) (Sub.cons (rfl) (Sub.cons (look_eq rfl (iV (by omega))) (Sub.nil)))) (show w = _ ∧ (i + 1) ≤ es.length ∧ ((i + 1) = 0 → (sizeE es) = 0) ∧ (0 < (i + 1) → (sizeE es) = sizeE es) ∧ ∀ p ∈ es.take (i + 1), p.2.length ≤ 1048576 from ?_) (show es.length - (i + 1) < es.length - i from ?_)
        · refine ⟨rfl, by omega, fun h => by omega, fun _ => rfl, ?_⟩
          intro p hp
          rw [List.take_succ_eq_append_getElem hlt] at hp
          rcases List.mem_append.1 hp with h | h
          · exact hsm p h
          · obtain rfl := List.mem_singleton.1 h
            omega
        · omega
    · obtain rfl : i = es.length := by omega
      rw [List.take_length] at hsm
      have hkz : k = sizeE es := by
        rcases Nat.eq_zero_or_pos es.length with h | h
        · rw [hk0 h]; cases es with
          | nil => rfl
          | cons p r => simp at h
        · exact hk1 h
      subst hkz
      have hshort : ¬ (1000 < es.length ∨ longE es) := by
        rintro (h | ⟨p, hp, h⟩)
        · omega
        · have := hsm p hp; omega
      have hsz20 : sizeE es ≤ 1048576 := by
        cases es with
        | nil => exact Nat.zero_le _
        | cons p r => exact hsm p (by simp)
      obtain ⟨H, hH⟩ : ∃ H, H = be64 es.length ++ be64 (sizeE es) := ⟨_, rfl⟩
      have hHl : H.length = 16 := by rw [hH, List.length_append, be64_length, be64_length]
      refine C.exit ?_
      refine At.thenExit ?_
      refine At.thenExit ?_
      refine At.blockSelf ?_
      refine At.thenCode ?_
      refine C.seq ?_
      refine C.region ?_
      refine W.move rfl rfl ?_
      refine W.lenS rfl Try.underlying49 rfl ?_
      first | refine W.convIN (M := 18446744073709551616) rfl Try.underlying3 Try.underlying22 rfl rfl (by omega) rfl ?_ | refine W.convIU (M := 18446744073709551616) rfl Try.underlying3 Try.underlying22 rfl rfl rfl ?_
      refine W.eqv (v' := u64V es.length) (iV (by omega)) ?_
      refine W.call Try.call38 rfl (Words.RPut64_ok none 0 [] es.length _ (Sl.none _ _) (by simp)) rfl ?_
      rintro v32 w32 ⟨hO32, hX32⟩
      rw [List.nil_append] at hO32
      obtain ⟨a32, c32, rfl, hS32, _⟩ := ownsRow_form hO32
      refine W.move rfl rfl ?_
      first | refine W.convIN (M := 18446744073709551616) rfl Try.underlying3 Try.underlying22 rfl rfl (by omega) rfl ?_ | refine W.convIU (M := 18446744073709551616) rfl Try.underlying3 Try.underlying22 rfl rfl rfl ?_
      refine W.eqv (v' := u64V (sizeE es)) (iV (by omega)) ?_
      refine W.call Try.call38 rfl (Words.RPut64_ok a32 c32 (be64 es.length) (sizeE es) _ hS32 (by rw [be64_length]; decide)) rfl ?_
      rintro v35 w35 ⟨hO35, hX35⟩
      rw [← hH] at hO35
      have hXa := hX32.ext hX35
      refine W.assign rfl rfl ?_
      refine W.nil ?_
      refine At.thenCode ?_
      refine C.seq ?_
      refine C.seq ?_
      refine C.region ?_
      refine W.assign rfl rfl ?_
      refine W.nil ?_
      refine At.thenCode ?_
      refine C.block ?_
      refine C.loop (X := Nat × Value) (fun x_ => [(0, .slice ao es.length c), (4, .int .i64 (sizeE es : Int)), (6, x_.2), (7, .int .i64 (x_.1 : Int))]) (fun x_ wl => x_.1 ≤ es.length ∧ Ext w wl ∧ Ow wl w.heap.size 5 x_.2 (H ++ encEnts (es.take x_.1)) ∧ ∀ p ∈ es.take x_.1, p.2.length = sizeE es ∧ Rt p.1) (fun x_ => es.length - x_.1) (0, v35) (Sub.cons (rfl) (Sub.cons (rfl) (Sub.cons (rfl) (Sub.cons (rfl) (Sub.nil))))) ?start2 ?_
      case start2 =>
        show (0) ≤ es.length ∧ Ext w _ ∧ Ow _ w.heap.size 5 (v35) (H ++ encEnts (es.take (0))) ∧ ∀ p ∈ es.take (0), p.2.length = sizeE es ∧ Rt p.1
        exact ⟨by omega, hXa, by simpa [encEnts] using ownsRow_base hO35 (Chg.size hX32), by simp⟩
      rintro ⟨j, v⟩ wl hI_
      replace hI_ : j ≤ es.length ∧ Ext w wl ∧ Ow wl w.heap.size 5 v (H ++ encEnts (es.take j)) ∧ ∀ p ∈ es.take j, p.2.length = sizeE es ∧ Rt p.1 := hI_
      obtain ⟨hj, hXl, hOl, hRt⟩ := hI_
      refine C.weaken (l' := [(0, .slice ao es.length c), (4, .int .i64 (sizeE es : Int)), (6, v), (7, .int .i64 (j : Int))]) (Sub.cons (rfl) (Sub.cons (rfl) (Sub.cons (rfl) (Sub.cons (rfl) (Sub.nil))))) ?_
      refine C.seq ?_
      refine C.seq ?_
      refine C.region ?_
      refine W.move rfl rfl ?_
      refine W.move rfl rfl ?_
      refine W.lenS rfl Try.underlying49 rfl ?_
      refine W.lssI rfl rfl rfl ?_
      refine W.nil ?_
      refine At.thenCode ?_
      first | refine C.condD rfl (fun c39 => ?_) (fun c39 => ?_) | refine C.cond rfl (fun c39 => ?_) (fun c39 => ?_)
      · have hlt : j < es.length := by omega
        have hmem : es[j] ∈ es := List.getElem_mem hlt
        have hlen1 : (encEnts (es.take j)).length ≤ 1000 * (8 + 1048576) := by
          have := encEnts_le (l := es.take j) (m := 1048576) (fun p hp => hsm p (List.mem_of_mem_take hp))
          have h2 : (es.take j).length ≤ 1000 := by rw [List.length_take]; omega
          exact Nat.le_trans this (Nat.mul_le_mul_right (8 + 1048576) h2)
        have hlen2 : 1000 * (8 + 1048576) = 1048584000 := by decide
        rw [hlen2] at hlen1
        have hsmj := hsm _ hmem
        obtain ⟨X, hX⟩ : ∃ X, X = H ++ encEnts (es.take j) := ⟨_, rfl⟩
        have hXlen : X.length ≤ 1048584016 := by rw [hX, List.length_append]; omega
        rw [← hX] at hOl
        obtain ⟨a6, c6, rfl, hS6, _⟩ := ownsRow_form hOl
        refine C.skip ?_
        refine At.thenCode ?_
        refine C.seq ?_
        refine C.block ?_
        refine C.seq ?_
        refine C.seq ?_
        refine C.region ?_
        refine W.move rfl rfl ?_
        refine W.move rfl rfl ?_
        refine W.indexE EEnt Try.underlying49 rfl (hE.ext rEnt hXl) rfl hlt rfl ?_
        rintro ad44 cs44 hc44 ⟨v44, rfl, hR44, hx44⟩ _
        obtain ⟨a44, c44, rfl, hs44, _⟩ := hR44.form
        refine W.fieldAddr (off := 1) (size := 1) (t := 27) (Fld.of (by kernel_rfl)) rfl rfl rfl ?_
        refine W.loadC hc44 rfl rfl Try.underlying27 rfl rfl ?_
        refine W.lenS rfl Try.underlying27 rfl ?_
        refine W.move rfl rfl ?_
        refine W.neqI rfl rfl rfl ?_
        refine W.move rfl rfl ?_
        first | refine W.splitD (fun g50 => ?_) (fun g50 => ?_) | refine W.splitB (fun g50 => ?_) (fun g50 => ?_)
        · refine W.skips rfl rfl rfl rfl rfl rfl ?_
          refine W.skips rfl rfl rfl rfl rfl rfl ?_
          refine W.skips rfl rfl rfl rfl rfl rfl ?_
          refine W.skips rfl rfl rfl rfl rfl rfl ?_
          refine W.skips rfl rfl rfl rfl rfl rfl ?_
          refine W.skips rfl rfl rfl rfl rfl rfl ?_
          refine W.skips rfl rfl rfl rfl rfl rfl ?_
          refine W.pickT rfl rfl rfl ?_
          refine W.nil ?_
          refine At.thenCode ?_
          refine C.condT rfl ?_
          -- known too
          have hwrong : wrongE es := ⟨es[j], hmem, by first | exact Or.inl (by omega) | exact Or.inr (by simpa using c58)⟩
          have hEE : entsE es = 1 := by unfold entsE; rw [if_neg hshort, if_pos hwrong]
          have hEB : entsB es = [] := by unfold entsB; rw [hEE]; rfl
          refine C.seq ?_
          refine C.region ?_
          refine W.assign rfl rfl ?_
          refine W.assign rfl rfl ?_
          refine W.nil ?_
          refine At.thenCode ?_
          refine C.ret ?_
          refine At.thenRet ?_
          refine At.blockRet ?_
          refine At.thenRet ?_
          refine At.thenRet ?_
          refine At.blockRet ?_
          refine At.thenRet ?_
          refine At.ret2 Try.results29 rfl rfl ?_
          first
          | exact ⟨none, 0, by rw [hEB, hEE]; rfl, by rw [hEB]; exact NewB.nil _ _, Ext.refl _⟩
          | exact ⟨none, 0, by rw [hEB, hEE]; rfl, by rw [hEB]; exact NewB.nil _ _, hXl⟩
          | exact ⟨aR, cR, by rw [hEE]; rfl, ⟨hSR, fun ad ea _ => hbR ad ea⟩, hXl⟩
        · refine W.wants rfl rfl rfl rfl ?_
          refine W.move rfl rfl ?_
          refine W.wants rfl rfl rfl rfl ?_
          refine W.move rfl rfl ?_
          refine W.wants rfl rfl rfl rfl ?_
          refine W.indexE EEnt Try.underlying49 rfl (hE.ext rEnt hXl) rfl hlt rfl ?_
          rintro ad53 cs53 hc53 ⟨v53, rfl, hR53, hx53⟩ _
          refine W.wants rfl rfl rfl rfl ?_
          refine W.fieldAddr (off := 0) (size := 1) (t := 22) (Fld.of (by kernel_rfl)) rfl rfl rfl ?_
          refine W.wants rfl rfl rfl rfl ?_
          refine W.loadC hc53 rfl rfl Try.underlying22 rfl rfl ?_
          refine W.wants rfl rfl rfl rfl ?_
          refine W.call Try.call41 rfl (Grp.RRight_ok _ _) rfl ?_
          rintro v w' ⟨rfl, rfl⟩
          refine W.wants rfl rfl rfl rfl ?_
          first | refine W.notD rfl rfl ?_ | refine W.notB rfl rfl ?_
          refine W.pickF rfl rfl rfl ?_
          refine W.nil ?_
          refine At.thenCode ?_
          first | refine C.condD rfl (fun c58 => ?_) (fun c58 => ?_) | refine C.cond rfl (fun c58 => ?_) (fun c58 => ?_)
          · -- known too
            have hwrong : wrongE es := ⟨es[j], hmem, by first | exact Or.inl (by omega) | exact Or.inr (by simpa using c58)⟩
            have hEE : entsE es = 1 := by unfold entsE; rw [if_neg hshort, if_pos hwrong]
            have hEB : entsB es = [] := by unfold entsB; rw [hEE]; rfl
            refine C.seq ?_
            refine C.region ?_
            refine W.assign rfl rfl ?_
            refine W.assign rfl rfl ?_
            refine W.nil ?_
            refine At.thenCode ?_
            refine C.ret ?_
            refine At.thenRet ?_
            refine At.blockRet ?_
            refine At.thenRet ?_
            refine At.thenRet ?_
            refine At.blockRet ?_
            refine At.thenRet ?_
            refine At.ret2 Try.results29 rfl rfl ?_
            first
            | exact ⟨none, 0, by rw [hEB, hEE]; rfl, by rw [hEB]; exact NewB.nil _ _, Ext.refl _⟩
            | exact ⟨none, 0, by rw [hEB, hEE]; rfl, by rw [hEB]; exact NewB.nil _ _, hXl⟩
            | exact ⟨aR, cR, by rw [hEE]; rfl, ⟨hSR, fun ad ea _ => hbR ad ea⟩, hXl⟩
          · refine C.skip ?_
            refine At.thenCode ?_
            refine C.regionAny 12 ((fun v w => v = .slice a6 X.length c6) :: (fun v w => v = .slice ao es.length c) :: (fun v w => v = .int .i64 (j : Int)) :: (fun v w => ∃ ad v1, v = .pointer (some ad) ∧ Cells w ad [u64V es[j].1, v1] ∧ RByt NoA w [v1] es[j].2) :: (fun v w => ∃ ad, v = .pointer (some ad) ∧ w.cell? ad = some (u64V es[j].1)) :: (fun v w => v = .int .u64 ((es[j].1 : Nat) : Int)) :: (fun v w => Ow w wl.heap.size 5 v (X ++ be64 es[j].1)) :: (fun v w => v = .slice ao es.length c) :: (fun v w => v = .int .i64 (j : Int)) :: (fun v w => ∃ ad v1, v = .pointer (some ad) ∧ Cells w ad [u64V es[j].1, v1] ∧ RByt NoA w [v1] es[j].2) :: (fun v w => ∃ ad v1, v = .pointer (some ad) ∧ w.cell? ad = some v1 ∧ RByt NoA w [v1] es[j].2) :: (fun v w => RByt NoA w [v] es[j].2) :: []) [(0, .slice ao es.length c), (4, .int .i64 (sizeE es : Int)), (6, .slice a6 X.length c6), (7, .int .i64 (j : Int))] [] (Sub.cons (rfl) (Sub.cons (rfl) (Sub.cons (rfl) (Sub.cons (rfl) (Sub.nil))))) (Sub.nil) (Sub.cons (rfl) (Sub.cons (rfl) (Sub.cons (rfl) (Sub.cons (rfl) (Sub.nil))))) (by kernel_rfl) rfl rfl rfl (And.intro (fun _ _ _ h _ => h) (And.intro (fun _ _ _ h _ => h) (And.intro (fun _ _ _ h _ => h) (And.intro (fun _ _ _ h g => by obtain ⟨ad, v1, e, h1, h2⟩ := h; exact ⟨ad, v1, e, h1.chg g (fun c => c), RdOk.ext rByt h2 g⟩) (And.intro (fun _ _ _ h g => by obtain ⟨ad, e, h1⟩ := h; exact ⟨ad, e, Chg.cell g h1 fun c => c⟩) (And.intro (fun _ _ _ h _ => h) (And.intro (fun _ _ _ h g => by first | exact h | exact ownsRow_ext h g | exact Sl.ext h g) (And.intro (fun _ _ _ h _ => h) (And.intro (fun _ _ _ h _ => h) (And.intro (fun _ _ _ h g => by obtain ⟨ad, v1, e, h1, h2⟩ := h; exact ⟨ad, v1, e, h1.chg g (fun c => c), RdOk.ext rByt h2 g⟩) (And.intro (fun _ _ _ h g => by obtain ⟨ad, v1, e, h1, h2⟩ := h; exact ⟨ad, v1, e, Chg.cell g h1 fun c => c, RdOk.ext rByt h2 g⟩) (And.intro (fun _ _ _ h g => RdOk.ext rByt h g) (trivial))))))))))))) ?_ ?_
            · refine And.intro ?_ ?_
              · intro L_ wr hX_ hs_ hf_ hd_
                refine W.step [(6, _)] (Sub.cons (hs_ _ _ rfl) (Sub.refl _)) ?_
                refine W.move rfl rfl ?_
                refine W.nil ?_
                exact At.step (Ext.refl _) rfl
              refine And.intro ?_ ?_
              · intro L_ wr hX_ hs_ hf_ hd_
                refine W.step [(0, _)] (Sub.cons (hs_ _ _ rfl) (Sub.refl _)) ?_
                refine W.move rfl rfl ?_
                refine W.nil ?_
                exact At.step (Ext.refl _) rfl
              refine And.intro ?_ ?_
              · intro L_ wr hX_ hs_ hf_ hd_
                refine W.step [(7, _)] (Sub.cons (hs_ _ _ rfl) (Sub.refl _)) ?_
                refine W.move rfl rfl ?_
                refine W.nil ?_
                exact At.step (Ext.refl _) rfl
              refine And.intro ?_ ?_
              · intro L_ wr hX_ hs_ hf_ hd_
                obtain ⟨v1, e1, r1⟩ := hd_ 1 rfl
                obtain rfl : (.slice ao es.length c : Value) = v1 := Eq.symm r1
                obtain ⟨v2, e2, r2⟩ := hd_ 2 rfl
                obtain rfl : (.int .i64 (j : Int) : Value) = v2 := Eq.symm r2
                refine W.step [(60, _), (61, _)] (Sub.cons (e1 _ rfl) (Sub.cons (e2 _ rfl) (Sub.refl _))) ?_
                refine W.indexE EEnt Try.underlying49 rfl ((hE.ext rEnt hXl).ext rEnt hX_) rfl hlt rfl ?_
                rintro ad62 cs62 hc62 ⟨v62, rfl, hR62, hx62⟩ _
                refine W.nil ?_
                exact At.step (Ext.refl _) ⟨ad62, v62, rfl, hc62, hR62⟩
              refine And.intro ?_ ?_
              · intro L_ wr hX_ hs_ hf_ hd_
                obtain ⟨v3, e3, r3⟩ := hd_ 3 rfl
                obtain ⟨ad3, v3, rfl, hc3, hR3⟩ := r3
                refine W.step [(62, _)] (Sub.cons (e3 _ rfl) (Sub.refl _)) ?_
                refine W.fieldAddr (off := 0) (size := 1) (t := 22) (Fld.of (by kernel_rfl)) rfl rfl rfl ?_
                refine W.nil ?_
                exact At.step (Ext.refl _) ⟨ad3.add 0, rfl, hc3 0 _ rfl⟩
              refine And.intro ?_ ?_
              · intro L_ wr hX_ hs_ hf_ hd_
                obtain ⟨v4, e4, r4⟩ := hd_ 4 rfl
                obtain ⟨ad4, rfl, hc4⟩ := r4
                refine W.step [(63, _)] (Sub.cons (e4 _ rfl) (Sub.refl _)) ?_
                refine W.load (v := .int .u64 ((es[j].1 : Nat) : Int)) rfl Try.underlying22 rfl hc4 rfl ?_
                refine W.nil ?_
                exact At.step (Ext.refl _) rfl
              refine And.intro ?_ ?_
              · intro L_ wr hX_ hs_ hf_ hd_
                obtain ⟨v0, e0, r0⟩ := hd_ 0 rfl
                obtain rfl : (.slice a6 X.length c6 : Value) = v0 := Eq.symm r0
                obtain ⟨v5, e5, r5⟩ := hd_ 5 rfl
                obtain rfl : (.int .u64 ((es[j].1 : Nat) : Int) : Value) = v5 := Eq.symm r5
                refine W.step [(59, _), (64, _)] (Sub.cons (e0 _ rfl) (Sub.cons (e5 _ rfl) (Sub.refl _))) ?_
                refine W.call Try.call38 rfl (Words.RPut64_ok a6 c6 X es[j].1 _ (Sl.ext hS6 hX_) (by omega)) rfl ?_
                rintro v65 w65 ⟨hO65, hX65⟩
                refine W.nil ?_
                exact At.step hX65 (ownsRow_base hO65 (Chg.size hX_))
              refine And.intro ?_ ?_
              · intro L_ wr hX_ hs_ hf_ hd_
                refine W.step [(0, _)] (Sub.cons (hs_ _ _ rfl) (Sub.refl _)) ?_
                refine W.move rfl rfl ?_
                refine W.nil ?_
                exact At.step (Ext.refl _) rfl
              refine And.intro ?_ ?_
              · intro L_ wr hX_ hs_ hf_ hd_
                refine W.step [(7, _)] (Sub.cons (hs_ _ _ rfl) (Sub.refl _)) ?_
                refine W.move rfl rfl ?_
                refine W.nil ?_
                exact At.step (Ext.refl _) rfl
              refine And.intro ?_ ?_
              · intro L_ wr hX_ hs_ hf_ hd_
                obtain ⟨v7, e7, r7⟩ := hd_ 7 rfl
                obtain rfl : (.slice ao es.length c : Value) = v7 := Eq.symm r7
                obtain ⟨v8, e8, r8⟩ := hd_ 8 rfl
                obtain rfl : (.int .i64 (j : Int) : Value) = v8 := Eq.symm r8
                refine W.step [(66, _), (67, _)] (Sub.cons (e7 _ rfl) (Sub.cons (e8 _ rfl) (Sub.refl _))) ?_
                refine W.indexE EEnt Try.underlying49 rfl ((hE.ext rEnt hXl).ext rEnt hX_) rfl hlt rfl ?_
                rintro ad68 cs68 hc68 ⟨v68, rfl, hR68, hx68⟩ _
                refine W.nil ?_
                exact At.step (Ext.refl _) ⟨ad68, v68, rfl, hc68, hR68⟩
              refine And.intro ?_ ?_
              · intro L_ wr hX_ hs_ hf_ hd_
                obtain ⟨v9, e9, r9⟩ := hd_ 9 rfl
                obtain ⟨ad9, v9, rfl, hc9, hR9⟩ := r9
                refine W.step [(68, _)] (Sub.cons (e9 _ rfl) (Sub.refl _)) ?_
                refine W.fieldAddr (off := 1) (size := 1) (t := 27) (Fld.of (by kernel_rfl)) rfl rfl rfl ?_
                refine W.nil ?_
                exact At.step (Ext.refl _) ⟨ad9.add 1, v9, rfl, hc9 1 v9 rfl, hR9⟩
              refine And.intro ?_ ?_
              · intro L_ wr hX_ hs_ hf_ hd_
                obtain ⟨v10, e10, r10⟩ := hd_ 10 rfl
                obtain ⟨ad10, v10, rfl, hc10, hR10⟩ := r10
                refine W.step [(69, _)] (Sub.cons (e10 _ rfl) (Sub.refl _)) ?_
                refine W.load rfl Try.underlying27 rfl hc10 rfl ?_
                refine W.nil ?_
                exact At.step (Ext.refl _) hR10
              exact trivial
            · intro L_ wr hX16 hs_ hv_
              obtain ⟨v6, e6, r6⟩ := hv_ 6 (by decide)
              obtain ⟨v11, e11, r11⟩ := hv_ 11 (by decide)
              obtain ⟨a11, c11, rfl, hs11, _⟩ := RByt.form r11
              refine W.weaken (l' := [(65, _), (70, _), (0, _), (4, _), (6, _), (7, _)]) (Sub.cons (e6 _ rfl) (Sub.cons (e11 _ rfl) (Sub.cons (hs_ _ _ rfl) (Sub.cons (hs_ _ _ rfl) (Sub.cons (hs_ _ _ rfl) (Sub.cons (hs_ _ _ rfl) (Sub.nil))))))) ?_
              have hXr := hX16
              refine W.appendB (ys := es[j].2) E8 Try.underlying27 rfl rfl r6 hs11 (by rw [List.length_append, be64_length]; omega) (Chg.size hXr) rfl ?_
              intro v71 w71 hO71 hg71 _
              have hX71 : Ext wl w71 := hXr.news (Chg.of_grown hg71) (fun k hk => Or.inr (World.ownsRow.lt r6 k hk.symm).1)
              refine W.assign rfl rfl ?_
              refine W.nil ?_
              refine At.blockNormal ?_
              refine At.thenCode ?_
              refine C.region ?_
              refine W.move rfl rfl ?_
              first | refine W.addI rfl rfl (by omega) rfl ?_ | refine W.addW rfl rfl rfl ?_
              refine W.assign rfl rfl ?_
              refine W.nil ?_
              refine At.thenRound (j + 1, v71) (Sub.cons (rfl) (Sub.cons (rfl) (Sub.cons (rfl) (Sub.cons (look_eq rfl (iV (by omega))) (Sub.nil))))) (show (j + 1) ≤ es.length ∧ Ext w _ ∧ Ow _ w.heap.size 5 (v71) (H ++ encEnts (es.take (j + 1))) ∧ ∀ p ∈ es.take (j + 1), p.2.length = sizeE es ∧ Rt p.1 from ?_) (show es.length - (j + 1) < es.length - j from ?_)
              · refine ⟨by omega, hXl.ext hX71, ?_, ?_⟩
                · rw [encEnts_take hlt, ← List.append_assoc, ← hX, ← List.append_assoc]
                  exact ownsRow_base hO71 (Chg.size hXl)
                · intro p hp
                  rw [List.take_succ_eq_append_getElem hlt] at hp
                  rcases List.mem_append.1 hp with h | h
                  · exact hRt p h
                  · obtain rfl := List.mem_singleton.1 h
                    exact ⟨by omega, by simpa using c58⟩
              · omega
      · obtain rfl : j = es.length := by omega
        rw [List.take_length] at hOl hRt
        have hEE : entsE es = 0 := by
          unfold entsE
          rw [if_neg hshort, if_neg]
          rintro ⟨p, hp, hq⟩
          rcases hq with hq | hq
          · exact hq (hRt p hp).1
          · exact hq (hRt p hp).2
        have hEB : entsB es = H ++ encEnts es := by unfold entsB; rw [if_pos hEE, hH]
        rw [← hEB] at hOl
        obtain ⟨aR, cR, rfl, hSR, hbR⟩ := ownsRow_form hOl
        refine C.exit ?_
        refine At.thenExit ?_
        refine At.thenExit ?_
        refine At.blockSelf ?_
        refine At.thenCode ?_
        refine C.seq ?_
        refine C.region ?_
        refine W.move rfl rfl ?_
        refine W.assign rfl rfl ?_
        refine W.assign rfl rfl ?_
        refine W.nil ?_
        refine At.thenCode ?_
        refine C.ret ?_
        refine At.ret2 Try.results29 rfl rfl ?_
        first
        | exact ⟨none, 0, by rw [hEB, hEE]; rfl, by rw [hEB]; exact NewB.nil _ _, Ext.refl _⟩
        | exact ⟨none, 0, by rw [hEB, hEE]; rfl, by rw [hEB]; exact NewB.nil _ _, hXl⟩
        | exact ⟨aR, cR, by rw [hEE]; rfl, ⟨hSR, fun ad ea _ => hbR ad ea⟩, hXl⟩
end Go.Proofs.Ytpjdkobmcjgcjaa.Cod
