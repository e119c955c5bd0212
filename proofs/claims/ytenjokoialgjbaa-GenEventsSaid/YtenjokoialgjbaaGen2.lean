/- The events of package gen and of the reference's chapter 26. -/
import Derived.Test.YtenjokoialgjbaaGen
namespace Go.Proofs.Ytenjokoialgjbaa.Gen
open Go Go.RowKit Go.Proofs.Ytenjokoialgjbaa.KW Go.Proofs.Ytenjokoialgjbaa.Words
set_option linter.unusedVariables false
set_option linter.unusedSimpArgs false
set_option maxRecDepth 100000
theorem cap_le (n m : Int) (hm : 0 ≤ m) : (cap n m : Int) ≤ m := by unfold cap; omega
theorem usr_typed : ∀ (n i : Nat), i < n → Typed evK (((usr n).drop (i * 42)).take 42)
  | 0, i, h => absurd h (by omega)
  | n + 1, i, h => by
    rw [usr]
    by_cases e : i = n
    · subst e
      rw [List.drop_append_of_le_length (by rw [usr_length]; omega), List.drop_of_length_le (by rw [usr_length]; omega), List.nil_append, List.take_of_length_le (by rw [evC_length]; exact Nat.le_refl _)]
      exact evC_typed _ _ _ _ _ _
    · rw [List.drop_append_of_le_length (by rw [usr_length]; omega), List.take_append_of_le_length (by rw [List.length_drop, usr_length]; omega)]
      exact usr_typed n i (by omega)
theorem evA_typed (s : Nat) (u : Int) (U : Nat) : ∀ (n i : Nat), i < U + n → Typed evK (((evA s u U n).drop (i * 42)).take 42)
  | 0, i, h => usr_typed U i h
  | n + 1, i, h => by
    rw [evA]
    by_cases e : i = U + n
    · subst e
      rw [List.drop_append_of_le_length (by rw [evA_length]; omega), List.drop_of_length_le (by rw [evA_length]; omega), List.nil_append, List.take_of_length_le (by rw [ev_length]; exact Nat.le_refl _)]
      exact ev_typed _ _
    · rw [List.drop_append_of_le_length (by rw [evA_length]; omega), List.take_append_of_le_length (by rw [List.length_drop, evA_length]; omega)]
      exact evA_typed s u U n i (by omega)
theorem eventsC_typed (seed users count : Int) (i : Nat) (h : i < eventsN users count) : Typed evK (((eventsC seed users count).drop (i * 42)).take 42) := evA_typed _ _ _ _ i h
theorem eventsC_length (seed users count : Int) : (eventsC seed users count).length = 42 * eventsN users count := evA_length _ _ _ _
theorem eventsN_le (users count : Int) : eventsN users count ≤ 120 := by unfold eventsN cap; omega
theorem Events_ok (seed users count : Int) (w : World) : Ct Try.prog 19 #[.int .i64 seed, .int .i64 users, .int .i64 count] w (fun v w' => (∃ ao c, v = .slice ao (eventsN users count) c ∧ Sl w' ao (eventsN users count) c 42 (eventsC seed users count)) ∧ Ext w w') := by
  refine Ct.enter [(0, .int .i64 seed), (1, .int .i64 users), (2, .int .i64 count)] Try.func19 rfl rfl rfl rfl ?_
  obtain ⟨U, hU⟩ : ∃ U, U = cap users 20 := ⟨_, rfl⟩
  obtain ⟨Cn, hC⟩ : ∃ Cn, Cn = cap count 100 := ⟨_, rfl⟩
  have hU20 : U ≤ 20 := by rw [hU]; unfold cap; omega
  have hC100 : Cn ≤ 100 := by rw [hC]; unfold cap; omega
  refine C.seq ?_
  refine C.region ?_
  refine W.assign rfl rfl ?_
  refine W.nil ?_
  refine At.thenCode ?_
  refine C.seq ?_
  refine C.region ?_
  refine W.move rfl rfl ?_
  refine W.maxI rfl rfl rfl ?_
  refine W.minI rfl rfl rfl ?_
  refine W.eqv (v' := .int .i64 (U : Int)) (iV (by rw [hU]; unfold cap; omega)) ?_
  refine W.assign rfl rfl ?_
  refine W.nil ?_
  refine At.thenCode ?_
  refine C.seq ?_
  refine C.region ?_
  refine W.assign rfl rfl ?_
  refine W.nil ?_
  refine At.thenCode ?_
  refine C.seq ?_
  refine C.seq ?_
  refine C.region ?_
  refine W.move rfl rfl ?_
  refine W.move rfl rfl ?_
  refine W.nil ?_
  refine At.thenCode ?_
  refine C.block ?_
  refine C.loop (X := Nat × Value) (fun x_ => [(0, .int .i64 seed), (1, .int .i64 (U : Int)), (2, .int .i64 count), (7, x_.2), (13, .int .i64 (U : Int)), (14, .int .i64 (x_.1 : Int))]) (fun x_ w1 => Ext w w1 ∧ x_.1 ≤ U ∧ World.ownsRow w1 w.heap.size 70 42 x_.2 x_.1 (usr x_.1)) (fun x_ => U - x_.1) (0, .slice none 0 0) (Sub.cons (rfl) (Sub.cons (rfl) (Sub.cons (rfl) (Sub.cons (rfl) (Sub.cons (rfl) (Sub.cons (rfl) (Sub.nil))))))) ?start1 ?_
  case start1 =>
    show Ext w _ ∧ (0) ≤ U ∧ World.ownsRow _ w.heap.size 70 42 (.slice none 0 0) (0) (usr (0))
    exact ⟨Ext.refl _, by omega, World.ownsRow_nil _ _ _ _⟩
  rintro ⟨i, v⟩ w1 hI_
  replace hI_ : Ext w w1 ∧ i ≤ U ∧ World.ownsRow w1 w.heap.size 70 42 v i (usr i) := hI_
  obtain ⟨hX1, hi, hO1⟩ := hI_
  refine C.weaken (l' := [(0, .int .i64 seed), (1, .int .i64 (U : Int)), (2, .int .i64 count), (7, v), (13, .int .i64 (U : Int)), (14, .int .i64 (i : Int))]) (Sub.cons (rfl) (Sub.cons (rfl) (Sub.cons (rfl) (Sub.cons (rfl) (Sub.cons (rfl) (Sub.cons (rfl) (Sub.nil))))))) ?_
  refine C.seq ?_
  refine C.region ?_
  refine W.lssI rfl rfl rfl ?_
  refine W.nil ?_
  refine At.thenCode ?_
  refine C.seq ?_
  first | refine C.condD rfl (fun c15 => ?_) (fun c15 => ?_) | refine C.cond rfl (fun c15 => ?_) (fun c15 => ?_)
  · refine C.skip ?_
    refine At.thenCode ?_
    refine C.seq ?_
    refine C.block ?_
    refine C.seq ?_
    refine C.region ?_
    refine W.move rfl rfl ?_
    refine W.assign rfl rfl ?_
    refine W.nil ?_
    refine At.thenCode ?_
    refine C.region ?_
    refine W.move rfl rfl ?_
    refine W.move rfl rfl ?_
    first | refine W.addI rfl rfl (by omega) rfl ?_ | refine W.addW rfl rfl rfl ?_
    first | refine W.convIN (M := 18446744073709551616) rfl Try.underlying3 Try.underlying46 rfl rfl (by omega) rfl ?_ | refine W.convIU (M := 18446744073709551616) rfl Try.underlying3 Try.underlying46 rfl rfl rfl ?_
    refine W.eqv (v' := .int .u64 (1000 + (i : Int))) (iV (by omega)) ?_
    refine W.buildS [(0, 1), (1, 1), (2, 1), (3, 1), (4, 1), (5, 1), (6, 1), (7, 3), (10, 32)] (evC 1 0 0 0 (1000 + i) 0) [(.int .i64 0), (.int .i64 0), (.int .i64 0), (.int .i64 0), (.int .i64 0), (.int .i64 0), (.int .u64 0), (.int .i64 0), (.int .i64 0), (.int .i64 0), (.int .u8 0), (.int .u8 0), (.int .u8 0), (.int .u8 0), (.int .u8 0), (.int .u8 0), (.int .u8 0), (.int .u8 0), (.int .u8 0), (.int .u8 0), (.int .u8 0), (.int .u8 0), (.int .u8 0), (.int .u8 0), (.int .u8 0), (.int .u8 0), (.int .u8 0), (.int .u8 0), (.int .u8 0), (.int .u8 0), (.int .u8 0), (.int .u8 0), (.int .u8 0), (.int .u8 0), (.int .u8 0), (.int .u8 0), (.int .u8 0), (.int .u8 0), (.int .u8 0), (.int .u8 0), (.int .u8 0), (.int .u8 0)] Try.underlying70 (by kernel_rfl) (by kernel_rfl) rfl rfl rfl ?_
    refine W.litS (evC 1 0 0 0 (1000 + i) 0) EE Try.underlying39 rfl (evC_length _ _ _ _ _ _) (by decide) rfl ?_
    intro g22 w22 hg22 hX22 _ hS22
    have hO22 := ownsRow_ext hO1 hX22
    refine W.append EE Try.underlying39 rfl rfl hO22 hS22 (evC_typed _ _ _ _ _ _).one (by omega) (by omega) (by have := hX1.size; have := hX22.size; omega) rfl ?_
    intro v23 w23 ho23 hg23 _
    have hX23 : Ext w w23 := (hX1.ext hX22).news (Chg.of_grown hg23) (fun k hk => Or.inr ((World.ownsRow.lt hO22 k hk.symm).1))
    refine W.assign rfl rfl ?_
    refine W.nil ?_
    refine At.blockNormal ?_
    refine At.thenCode ?_
    refine C.region ?_
    first | refine W.addI rfl rfl (by omega) rfl ?_ | refine W.addW rfl rfl rfl ?_
    refine W.move rfl rfl ?_
    refine W.nil ?_
    refine At.thenRound (i + 1, v23) (Sub.cons (rfl) (Sub.cons (rfl) (Sub.cons (rfl) (Sub.cons (rfl) (Sub.cons (rfl) (Sub.cons (look_eq rfl (by rw [show (i : Int) + 1 = ((i + 1 : Nat) : Int) by omega])) (Sub.nil))))))) (show Ext w _ ∧ (i + 1) ≤ U ∧ World.ownsRow _ w.heap.size 70 42 (v23) (i + 1) (usr (i + 1)) from ?_) (show U - (i + 1) < U - i from ?_)
    · exact ⟨hX23, by omega, by rw [usr]; exact ho23⟩
    · omega
  · obtain rfl : i = U := by omega
    refine C.exit ?_
    refine At.thenExit ?_
    refine At.thenExit ?_
    refine At.blockSelf ?_
    refine At.thenCode ?_
    refine C.seq ?_
    refine C.region ?_
    refine W.move rfl rfl ?_
    refine W.call Try.call14 rfl (Gen.New_ok seed _) rfl ?_
    rintro v26 w26 ⟨g26, rfl, hg26, hX26, hB26⟩
    have hlt26 := hB26.lt
    have hs1 := hX1.size
    have hO26 := ownsRow_ext hO1 hX26
    refine W.assign rfl rfl ?_
    refine W.nil ?_
    refine At.thenCode ?_
    refine C.seq ?_
    refine C.seq ?_
    refine C.region ?_
    refine W.move rfl rfl ?_
    refine W.maxI rfl rfl rfl ?_
    refine W.minI rfl rfl rfl ?_
    refine W.eqv (v' := .int .i64 (Cn : Int)) (iV (by rw [hC]; unfold cap; omega)) ?_
    refine W.move rfl rfl ?_
    refine W.nil ?_
    refine At.thenCode ?_
    refine C.block ?_
    refine C.loop (X := Nat × Value) (fun x_ => [(1, .int .i64 (i : Int)), (7, x_.2), (9, .pointer (some ⟨g26, 0, none⟩)), (29, .int .i64 (Cn : Int)), (30, .int .i64 (x_.1 : Int))]) (fun x_ w2 => Ext w w2 ∧ x_.1 ≤ Cn ∧ World.ownsRow w2 w.heap.size 70 42 x_.2 (i + x_.1) (evA (st0 seed) (i : Int) i x_.1) ∧ Bk w2 g26 [.int .i64 ((stA (st0 seed) x_.1 : Nat) : Int)] ∧ ∀ k, x_.2.ownBlock = some k → k ≠ g26) (fun x_ => Cn - x_.1) (0, v) (Sub.cons (rfl) (Sub.cons (rfl) (Sub.cons (rfl) (Sub.cons (rfl) (Sub.cons (rfl) (Sub.nil)))))) ?start2 ?_
    case start2 =>
      show Ext w _ ∧ (0) ≤ Cn ∧ World.ownsRow _ w.heap.size 70 42 (v) (i + (0)) (evA (st0 seed) (i : Int) i (0)) ∧ Bk _ g26 [.int .i64 ((stA (st0 seed) (0) : Nat) : Int)] ∧ ∀ k, (v).ownBlock = some k → k ≠ g26
      exact ⟨hX1.ext hX26, by omega, hO26, hB26, fun k hk => by have := World.ownsRow.lt hO1 k hk; omega⟩
    rintro ⟨j, v⟩ w2 hI_
    replace hI_ : Ext w w2 ∧ j ≤ Cn ∧ World.ownsRow w2 w.heap.size 70 42 v (i + j) (evA (st0 seed) (i : Int) i j) ∧ Bk w2 g26 [.int .i64 ((stA (st0 seed) j : Nat) : Int)] ∧ ∀ k, v.ownBlock = some k → k ≠ g26 := hI_
    obtain ⟨hX2, hj, hO2, hB2, hne⟩ := hI_
    refine C.weaken (l' := [(1, .int .i64 (i : Int)), (7, v), (9, .pointer (some ⟨g26, 0, none⟩)), (29, .int .i64 (Cn : Int)), (30, .int .i64 (j : Int))]) (Sub.cons (rfl) (Sub.cons (rfl) (Sub.cons (rfl) (Sub.cons (rfl) (Sub.cons (rfl) (Sub.nil)))))) ?_
    refine C.seq ?_
    refine C.region ?_
    refine W.lssI rfl rfl rfl ?_
    refine W.nil ?_
    refine At.thenCode ?_
    refine C.seq ?_
    first | refine C.condD rfl (fun c31 => ?_) (fun c31 => ?_) | refine C.cond rfl (fun c31 => ?_) (fun c31 => ?_)
    · refine C.skip ?_
      refine At.thenCode ?_
      refine C.seq ?_
      refine C.block ?_
      refine C.region ?_
      refine W.move rfl rfl ?_
      refine W.move rfl rfl ?_
      refine W.move rfl rfl ?_
      refine W.call Try.call32 rfl (Gen.event_ok g26 _ (i : Int) _ (stA_lt (st0_lt seed) j) hB2) rfl ?_
      rintro v35 w35 ⟨rfl, hc35, hB35⟩
      have hO35 := ownsRow_chg hO2 hc35 (fun k hk h => hne k hk h)
      have hX35 : Ext w w35 := hX2.news hc35 (fun k hk => Or.inr (by omega))
      refine W.litS (evL (stA (st0 seed) j) (i : Int)) EE Try.underlying39 rfl (ev_length _ _) (by decide) rfl ?_
      intro g36 w36 hg36 hX36 _ hS36
      have hO36 := ownsRow_ext hO35 hX36
      have hB36 := hB35.ext hX36
      refine W.append EE Try.underlying39 rfl rfl hO36 hS36 (ev_typed _ _).one (by omega) (by omega) (by have := hX35.size; have := hX36.size; omega) rfl ?_
      intro v37 w37 ho37 hg37 hv37
      have hX37 : Ext w w37 := (hX35.ext hX36).news (Chg.of_grown hg37) (fun k hk => Or.inr ((World.ownsRow.lt hO36 k hk.symm).1))
      have hB37 := hB36.chg (Chg.of_grown hg37) (fun hk => hne _ hk.symm rfl)
      have hlt36 := hB36.lt
      have hne37 : ∀ k, v37.ownBlock = some k → k ≠ g26 := fun k hk => by
        rcases hv37 with h | ⟨k', h, hk'⟩
        · exact hne k (h ▸ hk)
        · rw [h] at hk; obtain rfl := Option.some.inj hk; omega
      refine W.assign rfl rfl ?_
      refine W.nil ?_
      refine At.blockNormal ?_
      refine At.thenCode ?_
      refine C.region ?_
      first | refine W.addI rfl rfl (by omega) rfl ?_ | refine W.addW rfl rfl rfl ?_
      refine W.move rfl rfl ?_
      refine W.nil ?_
      refine At.thenRound (j + 1, v37) (Sub.cons (rfl) (Sub.cons (rfl) (Sub.cons (rfl) (Sub.cons (rfl) (Sub.cons (look_eq rfl (by rw [show (j : Int) + 1 = ((j + 1 : Nat) : Int) by omega])) (Sub.nil)))))) (show Ext w _ ∧ (j + 1) ≤ Cn ∧ World.ownsRow _ w.heap.size 70 42 (v37) (i + (j + 1)) (evA (st0 seed) (i : Int) i (j + 1)) ∧ Bk _ g26 [.int .i64 ((stA (st0 seed) (j + 1) : Nat) : Int)] ∧ ∀ k, (v37).ownBlock = some k → k ≠ g26 from ?_) (show Cn - (j + 1) < Cn - j from ?_)
      · refine ⟨hX37, by omega, ?_, ?_, hne37⟩
        · rw [evA]; exact ho37
        · rw [stA]; exact hB37
      · omega
    · obtain rfl : j = Cn := by omega
      obtain ⟨ao2, c2, rfl, hS2, _⟩ := ownsRow_form hO2
      refine C.exit ?_
      refine At.thenExit ?_
      refine At.thenExit ?_
      refine At.blockSelf ?_
      refine At.thenCode ?_
      refine C.seq ?_
      refine C.region ?_
      refine W.move rfl rfl ?_
      refine W.assign rfl rfl ?_
      refine W.nil ?_
      refine At.thenCode ?_
      refine C.ret ?_
      refine At.ret1 Try.results19 rfl ?_
      exact ⟨⟨ao2, c2, by unfold eventsN; rw [hU, hC], by unfold eventsN eventsC; rw [← hU, ← hC]; exact hS2⟩, hX2⟩
theorem capped_ok (n m : Int) (hm : 0 ≤ m) (w : World) : Ct Try.prog 33 #[.int .i64 n, .int .i64 m] w (fun v w' => v = .int .i64 ((cap n m : Nat) : Int) ∧ w = w') := by
  refine Ct.enter [(0, .int .i64 n), (1, .int .i64 m)] Try.func33 rfl rfl rfl rfl ?_
  refine C.seq ?_
  refine C.region ?_
  refine W.assign rfl rfl ?_
  refine W.nil ?_
  refine At.thenCode ?_
  refine C.seq ?_
  refine C.seq ?_
  refine C.region ?_
  refine W.move rfl rfl ?_
  refine W.lssI rfl rfl rfl ?_
  refine W.nil ?_
  refine At.thenCode ?_
  first | refine C.condD rfl (fun c6 => ?_) (fun c6 => ?_) | refine C.cond rfl (fun c6 => ?_) (fun c6 => ?_)
  · refine C.seq ?_
    refine C.region ?_
    refine W.assign rfl rfl ?_
    refine W.nil ?_
    refine At.thenCode ?_
    refine C.ret ?_
    refine At.thenRet ?_
    refine At.ret1 Try.results33 rfl ?_
    exact ⟨iV (by unfold cap; omega), rfl⟩
  · refine C.skip ?_
    refine At.thenCode ?_
    refine C.seq ?_
    refine C.seq ?_
    refine C.region ?_
    refine W.move rfl rfl ?_
    refine W.move rfl rfl ?_
    refine W.gtrI rfl rfl rfl ?_
    refine W.nil ?_
    refine At.thenCode ?_
    first | refine C.condD rfl (fun c9 => ?_) (fun c9 => ?_) | refine C.cond rfl (fun c9 => ?_) (fun c9 => ?_)
    · refine C.seq ?_
      refine C.region ?_
      refine W.move rfl rfl ?_
      refine W.assign rfl rfl ?_
      refine W.nil ?_
      refine At.thenCode ?_
      refine C.ret ?_
      refine At.thenRet ?_
      refine At.ret1 Try.results33 rfl ?_
      exact ⟨iV (by unfold cap; omega), rfl⟩
    · refine C.skip ?_
      refine At.thenCode ?_
      refine C.seq ?_
      refine C.region ?_
      refine W.move rfl rfl ?_
      refine W.assign rfl rfl ?_
      refine W.nil ?_
      refine At.thenCode ?_
      refine C.ret ?_
      refine At.ret1 Try.results33 rfl ?_
      exact ⟨iV (by unfold cap; omega), rfl⟩
theorem SameEvents_ok (ao bo : Option Addr) (c c' n : Nat) (L : List Value) (w : World) (hS : Sl w ao n c 42 L) (hS' : Sl w bo n c' 42 L) (hn : n ≤ 1000000) (hT : ∀ i, i < n → Typed evK ((L.drop (i * 42)).take 42)) : Ct Try.prog 18 #[.slice ao n c, .slice bo n c'] w (fun v w' => v = .bool true ∧ Ext w w') := by
  refine Ct.enter [(0, .slice ao n c), (1, .slice bo n c')] Try.func18 rfl rfl rfl rfl ?_
  refine C.seq ?_
  refine C.region ?_
  refine W.assign rfl rfl ?_
  refine W.nil ?_
  refine At.thenCode ?_
  refine C.seq ?_
  refine C.seq ?_
  refine C.region ?_
  refine W.move rfl rfl ?_
  refine W.lenS rfl Try.underlying39 rfl ?_
  refine W.move rfl rfl ?_
  refine W.lenS rfl Try.underlying39 rfl ?_
  refine W.neqI rfl rfl rfl ?_
  refine W.nil ?_
  refine At.thenCode ?_
  first | refine C.condD rfl (fun c10 => ?_) (fun c10 => ?_) | refine C.cond rfl (fun c10 => ?_) (fun c10 => ?_)
  · exact absurd c10 (by first | assumption | omega)
  · refine C.skip ?_
    refine At.thenCode ?_
    refine C.seq ?_
    refine C.seq ?_
    refine C.region ?_
    refine W.assign rfl rfl ?_
    refine W.nil ?_
    refine At.thenCode ?_
    refine C.block ?_
    refine C.loop (X := Nat) (fun x_ => [(0, .slice ao n c), (1, .slice bo n c'), (5, .int .i64 (x_ : Int))]) (fun x_ w1 => Ext w w1 ∧ x_ ≤ n) (fun x_ => n - x_) (0) (Sub.cons (rfl) (Sub.cons (rfl) (Sub.cons (rfl) (Sub.nil)))) ?start1 ?_
    case start1 =>
      show Ext w _ ∧ (0) ≤ n
      exact ⟨Ext.refl _, by omega⟩
    rintro i w1 hI_
    replace hI_ : Ext w w1 ∧ i ≤ n := hI_
    obtain ⟨hX1, hi⟩ := hI_
    refine C.weaken (l' := [(0, .slice ao n c), (1, .slice bo n c'), (5, .int .i64 (i : Int))]) (Sub.cons (rfl) (Sub.cons (rfl) (Sub.cons (rfl) (Sub.nil)))) ?_
    refine C.seq ?_
    refine C.seq ?_
    refine C.region ?_
    refine W.move rfl rfl ?_
    refine W.move rfl rfl ?_
    refine W.lenS rfl Try.underlying39 rfl ?_
    refine W.lssI rfl rfl rfl ?_
    refine W.nil ?_
    refine At.thenCode ?_
    first | refine C.condD rfl (fun c14 => ?_) (fun c14 => ?_) | refine C.cond rfl (fun c14 => ?_) (fun c14 => ?_)
    · have hin : i < n := by omega
      have hTi := hT i hin
      have hl : ((L.drop (i * 42)).take 42).length = 42 := hTi.length
      refine C.skip ?_
      refine At.thenCode ?_
      refine C.seq ?_
      refine C.block ?_
      refine C.seq ?_
      refine C.regionAny 9 ((fun v w => v = .slice ao n c) :: (fun v w => v = .int .i64 (i : Int)) :: (fun v w => ∃ ad, v = .pointer (some ad) ∧ Cells w ad (L.drop (i * 42))) :: (fun v w => v = .agg ((L.drop (i * 42)).take 42).toArray) :: (fun v w => v = .slice bo n c') :: (fun v w => v = .int .i64 (i : Int)) :: (fun v w => ∃ ad, v = .pointer (some ad) ∧ Cells w ad (L.drop (i * 42))) :: (fun v w => v = .agg ((L.drop (i * 42)).take 42).toArray) :: (fun v w => v = .bool false) :: []) [(0, .slice ao n c), (1, .slice bo n c'), (5, .int .i64 (i : Int))] [] (Sub.cons (rfl) (Sub.cons (rfl) (Sub.cons (rfl) (Sub.nil)))) (Sub.nil) (Sub.cons (rfl) (Sub.cons (rfl) (Sub.cons (rfl) (Sub.nil)))) (by kernel_rfl) rfl rfl rfl (And.intro (fun _ _ _ h _ => h) (And.intro (fun _ _ _ h _ => h) (And.intro (fun _ _ _ ⟨ad, hv, h⟩ g => ⟨ad, hv, Cells.chg h g (fun x => x)⟩) (And.intro (fun _ _ _ h _ => h) (And.intro (fun _ _ _ h _ => h) (And.intro (fun _ _ _ h _ => h) (And.intro (fun _ _ _ ⟨ad, hv, h⟩ g => ⟨ad, hv, Cells.chg h g (fun x => x)⟩) (And.intro (fun _ _ _ h _ => h) (And.intro (fun _ _ _ h _ => h) (trivial)))))))))) ?_ ?_
      · refine And.intro ?_ ?_
        · intro L_ w2 hX_ hs_ hf_ hd_
          refine W.step [(0, _)] (Sub.cons (hs_ _ _ rfl) (Sub.refl _)) ?_
          refine W.move rfl rfl ?_
          refine W.nil ?_
          exact At.step (Ext.refl _) rfl
        refine And.intro ?_ ?_
        · intro L_ w2 hX_ hs_ hf_ hd_
          refine W.step [(5, _)] (Sub.cons (hs_ _ _ rfl) (Sub.refl _)) ?_
          refine W.move rfl rfl ?_
          refine W.nil ?_
          exact At.step (Ext.refl _) rfl
        refine And.intro ?_ ?_
        · intro L_ w2 hX_ hs_ hf_ hd_
          obtain ⟨v0, e0, r0⟩ := hd_ 0 rfl
          obtain rfl : (.slice ao n c : Value) = v0 := Eq.symm r0
          obtain ⟨v1, e1, r1⟩ := hd_ 1 rfl
          obtain rfl : (.int .i64 (i : Int) : Value) = v1 := Eq.symm r1
          refine W.step [(17, _), (18, _)] (Sub.cons e0 (Sub.cons e1 (Sub.refl _))) ?_
          refine W.indexS EE Try.underlying39 rfl ((hS.ext hX1).ext hX_) rfl (by omega) rfl ?_
          intro adE _ _ hcE
          refine W.nil ?_
          exact At.step (Ext.refl _) ⟨_, rfl, by rwa [Int.toNat_natCast] at hcE⟩
        refine And.intro ?_ ?_
        · intro L_ w2 hX_ hs_ hf_ hd_
          obtain ⟨v2, e2, r2⟩ := hd_ 2 rfl
          obtain ⟨ad2, rfl, hc2⟩ := r2
          refine W.step [(19, _)] (Sub.cons e2 (Sub.refl _)) ?_
          refine W.loadA rfl (hc2.take 42) Try.underlying70 rfl (by rw [hl]; kernel_rfl) rfl ?_
          refine W.nil ?_
          exact At.step (Ext.refl _) rfl
        refine And.intro ?_ ?_
        · intro L_ w2 hX_ hs_ hf_ hd_
          refine W.step [(1, _)] (Sub.cons (hs_ _ _ rfl) (Sub.refl _)) ?_
          refine W.move rfl rfl ?_
          refine W.nil ?_
          exact At.step (Ext.refl _) rfl
        refine And.intro ?_ ?_
        · intro L_ w2 hX_ hs_ hf_ hd_
          refine W.step [(5, _)] (Sub.cons (hs_ _ _ rfl) (Sub.refl _)) ?_
          refine W.move rfl rfl ?_
          refine W.nil ?_
          exact At.step (Ext.refl _) rfl
        refine And.intro ?_ ?_
        · intro L_ w2 hX_ hs_ hf_ hd_
          obtain ⟨v4, e4, r4⟩ := hd_ 4 rfl
          obtain rfl : (.slice bo n c' : Value) = v4 := Eq.symm r4
          obtain ⟨v5, e5, r5⟩ := hd_ 5 rfl
          obtain rfl : (.int .i64 (i : Int) : Value) = v5 := Eq.symm r5
          refine W.step [(21, _), (22, _)] (Sub.cons e4 (Sub.cons e5 (Sub.refl _))) ?_
          refine W.indexS EE Try.underlying39 rfl ((hS'.ext hX1).ext hX_) rfl (by omega) rfl ?_
          intro adE _ _ hcE
          refine W.nil ?_
          exact At.step (Ext.refl _) ⟨_, rfl, by rwa [Int.toNat_natCast] at hcE⟩
        refine And.intro ?_ ?_
        · intro L_ w2 hX_ hs_ hf_ hd_
          obtain ⟨v6, e6, r6⟩ := hd_ 6 rfl
          obtain ⟨ad6, rfl, hc6⟩ := r6
          refine W.step [(23, _)] (Sub.cons e6 (Sub.refl _)) ?_
          refine W.loadA rfl (hc6.take 42) Try.underlying70 rfl (by rw [hl]; kernel_rfl) rfl ?_
          refine W.nil ?_
          exact At.step (Ext.refl _) rfl
        refine And.intro ?_ ?_
        · intro L_ w2 hX_ hs_ hf_ hd_
          obtain ⟨v3, e3, r3⟩ := hd_ 3 rfl
          obtain rfl : (.agg ((L.drop (i * 42)).take 42).toArray : Value) = v3 := Eq.symm r3
          obtain ⟨v7, e7, r7⟩ := hd_ 7 rfl
          obtain rfl : (.agg ((L.drop (i * 42)).take 42).toArray : Value) = v7 := Eq.symm r7
          refine W.step [(20, _), (24, _)] (Sub.cons e3 (Sub.cons e7 (Sub.refl _))) ?_
          refine W.neqP (ks := evK) (xs := (L.drop (i * 42)).take 42) (ys := (L.drop (i * 42)).take 42) (by kernel_rfl) (by kernel_rfl) rfl rfl hTi hTi (by kernel_rfl) rfl ?_
          refine W.eqv (bF (fun h => h rfl)) ?_
          refine W.nil ?_
          exact At.step (Ext.refl _) rfl
        exact trivial
      · intro L_ w2 hX6 hs_ hv_
        obtain ⟨v8, e8, r8⟩ := hv_ 8 (by decide)
        obtain rfl : (.bool false : Value) = v8 := Eq.symm r8
        refine W.weaken (l' := [(25, _), (0, _), (1, _), (5, _)]) (Sub.cons e8 (Sub.cons (hs_ _ _ rfl) (Sub.cons (hs_ _ _ rfl) (Sub.cons (hs_ _ _ rfl) (Sub.nil))))) ?_
        refine W.nil ?_
        refine At.thenCode ?_
        refine C.condF rfl ?_
        refine C.skip ?_
        refine At.blockNormal ?_
        refine At.thenCode ?_
        refine C.region ?_
        refine W.move rfl rfl ?_
        first | refine W.addI rfl rfl (by omega) rfl ?_ | refine W.addW rfl rfl rfl ?_
        refine W.assign rfl rfl ?_
        refine W.nil ?_
        refine At.thenRound (i + 1) (Sub.cons (rfl) (Sub.cons (rfl) (Sub.cons (look_eq rfl (by rw [show (i : Int) + 1 = ((i + 1 : Nat) : Int) by omega])) (Sub.nil)))) (show Ext w _ ∧ (i + 1) ≤ n from ?_) (show n - (i + 1) < n - i from ?_)
        · exact ⟨hX1.ext hX6, by omega⟩
        · omega
    · refine C.exit ?_
      refine At.thenExit ?_
      refine At.thenExit ?_
      refine At.blockSelf ?_
      refine At.thenCode ?_
      refine C.seq ?_
      refine C.region ?_
      refine W.assign rfl rfl ?_
      refine W.nil ?_
      refine At.thenCode ?_
      refine C.ret ?_
      refine At.ret1 Try.results18 rfl ?_
      exact ⟨rfl, hX1⟩
theorem REvents_ok (seed users count : Int) (w : World) : Ct Try.prog 20 #[.int .i64 seed, .int .i64 users, .int .i64 count] w (fun v w' => (∃ ao c, v = .slice ao (eventsN users count) c ∧ Sl w' ao (eventsN users count) c 42 (eventsC seed users count)) ∧ Ext w w') := by
  refine Ct.enter [(0, .int .i64 seed), (1, .int .i64 users), (2, .int .i64 count)] Try.func20 rfl rfl rfl rfl ?_
  obtain ⟨U, hU⟩ : ∃ U, U = cap users 20 := ⟨_, rfl⟩
  obtain ⟨Cn, hC⟩ : ∃ Cn, Cn = cap count 100 := ⟨_, rfl⟩
  have hU20 : U ≤ 20 := by rw [hU]; unfold cap; omega
  have hC100 : Cn ≤ 100 := by rw [hC]; unfold cap; omega
  refine C.seq ?_
  refine C.region ?_
  refine W.assign rfl rfl ?_
  refine W.nil ?_
  refine At.thenCode ?_
  refine C.seq ?_
  refine C.region ?_
  refine W.move rfl rfl ?_
  refine W.call Try.call33 rfl (Gen.capped_ok _ _ (by decide) _) rfl ?_
  rintro v13 w13 ⟨rfl, rfl⟩
  rw [← hU]
  refine W.assign rfl rfl ?_
  refine W.nil ?_
  refine At.thenCode ?_
  refine C.seq ?_
  refine C.region ?_
  refine W.move rfl rfl ?_
  refine W.call Try.call33 rfl (Gen.capped_ok _ _ (by decide) _) rfl ?_
  rintro v15 w15 ⟨rfl, rfl⟩
  rw [← hC]
  refine W.assign rfl rfl ?_
  refine W.nil ?_
  refine At.thenCode ?_
  refine C.seq ?_
  refine C.region ?_
  refine W.assign rfl rfl ?_
  refine W.nil ?_
  refine At.thenCode ?_
  refine C.seq ?_
  refine C.seq ?_
  refine C.region ?_
  refine W.assign rfl rfl ?_
  refine W.nil ?_
  refine At.thenCode ?_
  refine C.block ?_
  refine C.loop (X := Nat × Value) (fun x_ => [(0, .int .i64 seed), (1, .int .i64 (U : Int)), (2, .int .i64 (Cn : Int)), (7, x_.2), (8, .int .i64 (x_.1 : Int))]) (fun x_ w1 => Ext w w1 ∧ x_.1 ≤ U ∧ World.ownsRow w1 w.heap.size 70 42 x_.2 x_.1 (usr x_.1)) (fun x_ => U - x_.1) (0, .slice none 0 0) (Sub.cons (rfl) (Sub.cons (rfl) (Sub.cons (rfl) (Sub.cons (rfl) (Sub.cons (rfl) (Sub.nil)))))) ?start1 ?_
  case start1 =>
    show Ext w _ ∧ (0) ≤ U ∧ World.ownsRow _ w.heap.size 70 42 (.slice none 0 0) (0) (usr (0))
    exact ⟨Ext.refl _, by omega, World.ownsRow_nil _ _ _ _⟩
  rintro ⟨i, v⟩ w1 hI_
  replace hI_ : Ext w w1 ∧ i ≤ U ∧ World.ownsRow w1 w.heap.size 70 42 v i (usr i) := hI_
  obtain ⟨hX1, hi, hO1⟩ := hI_
  refine C.weaken (l' := [(0, .int .i64 seed), (1, .int .i64 (U : Int)), (2, .int .i64 (Cn : Int)), (7, v), (8, .int .i64 (i : Int))]) (Sub.cons (rfl) (Sub.cons (rfl) (Sub.cons (rfl) (Sub.cons (rfl) (Sub.cons (rfl) (Sub.nil)))))) ?_
  refine C.seq ?_
  refine C.seq ?_
  refine C.region ?_
  refine W.move rfl rfl ?_
  refine W.move rfl rfl ?_
  refine W.lssI rfl rfl rfl ?_
  refine W.nil ?_
  refine At.thenCode ?_
  first | refine C.condD rfl (fun c18 => ?_) (fun c18 => ?_) | refine C.cond rfl (fun c18 => ?_) (fun c18 => ?_)
  · refine C.skip ?_
    refine At.thenCode ?_
    refine C.seq ?_
    refine C.block ?_
    refine C.region ?_
    refine W.move rfl rfl ?_
    refine W.move rfl rfl ?_
    first | refine W.addI rfl rfl (by omega) rfl ?_ | refine W.addW rfl rfl rfl ?_
    first | refine W.convIN (M := 18446744073709551616) rfl Try.underlying3 Try.underlying46 rfl rfl (by omega) rfl ?_ | refine W.convIU (M := 18446744073709551616) rfl Try.underlying3 Try.underlying46 rfl rfl rfl ?_
    refine W.eqv (v' := .int .u64 (1000 + (i : Int))) (iV (by omega)) ?_
    refine W.buildS [(0, 1), (1, 1), (2, 1), (3, 1), (4, 1), (5, 1), (6, 1), (7, 3), (10, 32)] (evC 1 0 0 0 (1000 + i) 0) [(.int .i64 0), (.int .i64 0), (.int .i64 0), (.int .i64 0), (.int .i64 0), (.int .i64 0), (.int .u64 0), (.int .i64 0), (.int .i64 0), (.int .i64 0), (.int .u8 0), (.int .u8 0), (.int .u8 0), (.int .u8 0), (.int .u8 0), (.int .u8 0), (.int .u8 0), (.int .u8 0), (.int .u8 0), (.int .u8 0), (.int .u8 0), (.int .u8 0), (.int .u8 0), (.int .u8 0), (.int .u8 0), (.int .u8 0), (.int .u8 0), (.int .u8 0), (.int .u8 0), (.int .u8 0), (.int .u8 0), (.int .u8 0), (.int .u8 0), (.int .u8 0), (.int .u8 0), (.int .u8 0), (.int .u8 0), (.int .u8 0), (.int .u8 0), (.int .u8 0), (.int .u8 0), (.int .u8 0)] Try.underlying70 (by kernel_rfl) (by kernel_rfl) rfl rfl rfl ?_
    refine W.litS (evC 1 0 0 0 (1000 + i) 0) EE Try.underlying39 rfl (evC_length _ _ _ _ _ _) (by decide) rfl ?_
    intro g22 w22 hg22 hX22 _ hS22
    have hO22 := ownsRow_ext hO1 hX22
    refine W.append EE Try.underlying39 rfl rfl hO22 hS22 (evC_typed _ _ _ _ _ _).one (by omega) (by omega) (by have := hX1.size; have := hX22.size; omega) rfl ?_
    intro v23 w23 ho23 hg23 _
    have hX23 : Ext w w23 := (hX1.ext hX22).news (Chg.of_grown hg23) (fun k hk => Or.inr ((World.ownsRow.lt hO22 k hk.symm).1))
    refine W.assign rfl rfl ?_
    refine W.nil ?_
    refine At.blockNormal ?_
    refine At.thenCode ?_
    refine C.region ?_
    refine W.move rfl rfl ?_
    first | refine W.addI rfl rfl (by omega) rfl ?_ | refine W.addW rfl rfl rfl ?_
    refine W.assign rfl rfl ?_
    refine W.nil ?_
    refine At.thenRound (i + 1, v23) (Sub.cons (rfl) (Sub.cons (rfl) (Sub.cons (rfl) (Sub.cons (rfl) (Sub.cons (look_eq rfl (by rw [show (i : Int) + 1 = ((i + 1 : Nat) : Int) by omega])) (Sub.nil)))))) (show Ext w _ ∧ (i + 1) ≤ U ∧ World.ownsRow _ w.heap.size 70 42 (v23) (i + 1) (usr (i + 1)) from ?_) (show U - (i + 1) < U - i from ?_)
    · exact ⟨hX23, by omega, by rw [usr]; exact ho23⟩
    · omega
  · obtain rfl : i = U := by omega
    refine C.exit ?_
    refine At.thenExit ?_
    refine At.thenExit ?_
    refine At.blockSelf ?_
    refine At.thenCode ?_
    refine C.seq ?_
    refine C.region ?_
    refine W.move rfl rfl ?_
    refine W.call Try.call15 rfl (Gen.RNew_ok seed _) rfl ?_
    rintro v26 w26 ⟨g26, rfl, hg26, hX26, hB26⟩
    have hlt26 := hB26.lt
    have hs1 := hX1.size
    have hO26 := ownsRow_ext hO1 hX26
    refine W.assign rfl rfl ?_
    refine W.nil ?_
    refine At.thenCode ?_
    refine C.seq ?_
    refine C.seq ?_
    refine C.region ?_
    refine W.assign rfl rfl ?_
    refine W.nil ?_
    refine At.thenCode ?_
    refine C.block ?_
    refine C.loop (X := Nat × Value) (fun x_ => [(1, .int .i64 (i : Int)), (2, .int .i64 (Cn : Int)), (7, x_.2), (9, .pointer (some ⟨g26, 0, none⟩)), (10, .int .i64 (x_.1 : Int))]) (fun x_ w2 => Ext w w2 ∧ x_.1 ≤ Cn ∧ World.ownsRow w2 w.heap.size 70 42 x_.2 (i + x_.1) (evA (st0 seed) (i : Int) i x_.1) ∧ Bk w2 g26 [.int .i64 ((stA (st0 seed) x_.1 : Nat) : Int)] ∧ ∀ k, x_.2.ownBlock = some k → k ≠ g26) (fun x_ => Cn - x_.1) (0, v) (Sub.cons (rfl) (Sub.cons (rfl) (Sub.cons (rfl) (Sub.cons (rfl) (Sub.cons (rfl) (Sub.nil)))))) ?start2 ?_
    case start2 =>
      show Ext w _ ∧ (0) ≤ Cn ∧ World.ownsRow _ w.heap.size 70 42 (v) (i + (0)) (evA (st0 seed) (i : Int) i (0)) ∧ Bk _ g26 [.int .i64 ((stA (st0 seed) (0) : Nat) : Int)] ∧ ∀ k, (v).ownBlock = some k → k ≠ g26
      exact ⟨hX1.ext hX26, by omega, hO26, hB26, fun k hk => by have := World.ownsRow.lt hO1 k hk; omega⟩
    rintro ⟨j, v⟩ w2 hI_
    replace hI_ : Ext w w2 ∧ j ≤ Cn ∧ World.ownsRow w2 w.heap.size 70 42 v (i + j) (evA (st0 seed) (i : Int) i j) ∧ Bk w2 g26 [.int .i64 ((stA (st0 seed) j : Nat) : Int)] ∧ ∀ k, v.ownBlock = some k → k ≠ g26 := hI_
    obtain ⟨hX2, hj, hO2, hB2, hne⟩ := hI_
    refine C.weaken (l' := [(1, .int .i64 (i : Int)), (2, .int .i64 (Cn : Int)), (7, v), (9, .pointer (some ⟨g26, 0, none⟩)), (10, .int .i64 (j : Int))]) (Sub.cons (rfl) (Sub.cons (rfl) (Sub.cons (rfl) (Sub.cons (rfl) (Sub.cons (rfl) (Sub.nil)))))) ?_
    refine C.seq ?_
    refine C.seq ?_
    refine C.region ?_
    refine W.move rfl rfl ?_
    refine W.move rfl rfl ?_
    refine W.lssI rfl rfl rfl ?_
    refine W.nil ?_
    refine At.thenCode ?_
    first | refine C.condD rfl (fun c32 => ?_) (fun c32 => ?_) | refine C.cond rfl (fun c32 => ?_) (fun c32 => ?_)
    · obtain ⟨S, hS⟩ : ∃ S, S = stA (st0 seed) j := ⟨_, rfl⟩
      have hSl : S < 4294967296 := by rw [hS]; exact stA_lt (st0_lt seed) j
      rw [← hS] at hB2
      have hlt2 := hB2.lt
      refine C.skip ?_
      refine At.thenCode ?_
      refine C.seq ?_
      refine C.block ?_
      refine C.seq ?_
      refine C.region ?_
      refine W.buildS [(0, 1), (1, 1), (2, 1), (3, 1), (4, 1), (5, 1), (6, 1), (7, 3), (10, 32)] (evC 0 0 0 0 0 0) [(.int .i64 0), (.int .i64 0), (.int .i64 0), (.int .i64 0), (.int .i64 0), (.int .i64 0), (.int .u64 0), (.int .i64 0), (.int .i64 0), (.int .i64 0), (.int .u8 0), (.int .u8 0), (.int .u8 0), (.int .u8 0), (.int .u8 0), (.int .u8 0), (.int .u8 0), (.int .u8 0), (.int .u8 0), (.int .u8 0), (.int .u8 0), (.int .u8 0), (.int .u8 0), (.int .u8 0), (.int .u8 0), (.int .u8 0), (.int .u8 0), (.int .u8 0), (.int .u8 0), (.int .u8 0), (.int .u8 0), (.int .u8 0), (.int .u8 0), (.int .u8 0), (.int .u8 0), (.int .u8 0), (.int .u8 0), (.int .u8 0), (.int .u8 0), (.int .u8 0), (.int .u8 0), (.int .u8 0)] Try.underlying70 (by kernel_rfl) (by kernel_rfl) rfl rfl rfl ?_
      refine W.alloc (z := .agg [(.int .i64 0), (.int .i64 0), (.int .i64 0), (.int .i64 0), (.int .i64 0), (.int .i64 0), (.int .u64 0), (.int .i64 0), (.int .i64 0), (.int .i64 0), (.int .u8 0), (.int .u8 0), (.int .u8 0), (.int .u8 0), (.int .u8 0), (.int .u8 0), (.int .u8 0), (.int .u8 0), (.int .u8 0), (.int .u8 0), (.int .u8 0), (.int .u8 0), (.int .u8 0), (.int .u8 0), (.int .u8 0), (.int .u8 0), (.int .u8 0), (.int .u8 0), (.int .u8 0), (.int .u8 0), (.int .u8 0), (.int .u8 0), (.int .u8 0), (.int .u8 0), (.int .u8 0), (.int .u8 0), (.int .u8 0), (.int .u8 0), (.int .u8 0), (.int .u8 0), (.int .u8 0), (.int .u8 0)].toArray) [(.int .i64 0), (.int .i64 0), (.int .i64 0), (.int .i64 0), (.int .i64 0), (.int .i64 0), (.int .u64 0), (.int .i64 0), (.int .i64 0), (.int .i64 0), (.int .u8 0), (.int .u8 0), (.int .u8 0), (.int .u8 0), (.int .u8 0), (.int .u8 0), (.int .u8 0), (.int .u8 0), (.int .u8 0), (.int .u8 0), (.int .u8 0), (.int .u8 0), (.int .u8 0), (.int .u8 0), (.int .u8 0), (.int .u8 0), (.int .u8 0), (.int .u8 0), (.int .u8 0), (.int .u8 0), (.int .u8 0), (.int .u8 0), (.int .u8 0), (.int .u8 0), (.int .u8 0), (.int .u8 0), (.int .u8 0), (.int .u8 0), (.int .u8 0), (.int .u8 0), (.int .u8 0), (.int .u8 0)] (by kernel_rfl) rfl rfl ?_
      intro g11 w11 hg11 hX11 hB11
      refine W.storeA (evC 0 0 0 0 0 0) rfl rfl hB11 rfl (by kernel_rfl) (evC_typed _ _ _ _ _ _).one ?_
      intro wS hcS hB11
      have hXS : Ext w2 wS := hX11.news hcS (fun k hk => Or.inr (by omega))
      have hB9 := hB2.ext hXS
      have hn11 : ¬ g26 = g11 := by omega
      have hC0 : Chg (fun k => k = g26 ∨ k = g11) wS wS := Chg.refl _ _
      refine W.nil ?_
      refine At.thenCode ?_
      refine C.seq ?_
      refine C.seq ?_
      refine C.region ?_
      refine W.move rfl rfl ?_
      refine W.call Try.call17 rfl (Gen.RNext_ok g26 S 8 _ hSl hB9) rfl ?_
      rintro v_ wA ⟨rfl, hc_, hB_⟩
      have hCh := hC0.trans (hc_.mono fun k hk => Or.inl hk)
      have hB11 := hB11.chg hc_ (fun e => hn11 e.symm)
      have hB9 := hB_
      refine W.nil ?_
      refine At.thenCode ?_
      refine C.mid (X := Nat) (fun x_ => [(1, .int .i64 (i : Int)), (2, .int .i64 (Cn : Int)), (7, v), (9, .pointer (some ⟨g26, 0, none⟩)), (10, .int .i64 (j : Int)), (11, .pointer (some ⟨g11, 0, none⟩))]) (fun x_ wm4 => Chg (fun k => k = g26 ∨ k = g11) wS wm4 ∧ Bk wm4 g26 [.int .i64 ((evS S : Nat) : Int)] ∧ Bk wm4 g11 (evL S (i : Int))) ?_ ?_
      · refine C.block ?_
        refine C.seq ?_
        refine C.region ?_
        refine W.eqlI rfl rfl rfl ?_
        refine W.assign rfl rfl ?_
        refine W.nil ?_
        refine At.thenCode ?_
        first | refine C.condD rfl (fun c39 => ?_) (fun c39 => ?_) | refine C.cond rfl (fun c39 => ?_) (fun c39 => ?_)
        · refine C.seq ?_
          refine C.region ?_
          refine W.fieldB (off := 0) (size := 1) (t := 3) (Fld.of (by kernel_rfl)) rfl rfl rfl ?_
          refine W.store1 rfl rfl rfl hB11 (by rw [evC_length]; decide) (by kernel_rfl) ?_
          intro wA hc_ hB_
          have hCh := hCh.trans (hc_.mono fun k hk => Or.inr hk)
          have hB9 := hB9.chg hc_ hn11
          have hB11 : Bk wA g11 (evC 2 0 0 0 0 0) := hB_
          refine W.nil ?_
          refine At.thenCode ?_
          refine C.seq ?_
          refine C.region ?_
          refine W.move rfl rfl ?_
          refine W.move rfl rfl ?_
          refine W.call Try.call17 rfl (Gen.RNext_ok g26 _ (i : Int) _ (nx_lt _) hB9) rfl ?_
          rintro v_ wA ⟨rfl, hc_, hB_⟩
          have hCh := hCh.trans (hc_.mono fun k hk => Or.inl hk)
          have hB11 := hB11.chg hc_ (fun e => hn11 e.symm)
          have hB9 := hB_
          refine W.fieldB (off := 1) (size := 1) (t := 3) (Fld.of (by kernel_rfl)) rfl rfl rfl ?_
          refine W.store1 rfl rfl rfl hB11 (by rw [evC_length]; decide) (by kernel_rfl) ?_
          intro wA hc_ hB_
          have hCh := hCh.trans (hc_.mono fun k hk => Or.inr hk)
          have hB9 := hB9.chg hc_ hn11
          have hB11 : Bk wA g11 (evC 2 (draw (nx S) (i : Int)) 0 0 0 0) := hB_
          refine W.nil ?_
          refine At.thenCode ?_
          refine C.region ?_
          refine W.move rfl rfl ?_
          refine W.move rfl rfl ?_
          refine W.call Try.call17 rfl (Gen.RNext_ok g26 _ (i : Int) _ (nx_lt _) hB9) rfl ?_
          rintro v_ wA ⟨rfl, hc_, hB_⟩
          have hCh := hCh.trans (hc_.mono fun k hk => Or.inl hk)
          have hB11 := hB11.chg hc_ (fun e => hn11 e.symm)
          have hB9 := hB_
          refine W.fieldB (off := 2) (size := 1) (t := 3) (Fld.of (by kernel_rfl)) rfl rfl rfl ?_
          refine W.store1 rfl rfl rfl hB11 (by rw [evC_length]; decide) (by kernel_rfl) ?_
          intro wA hc_ hB_
          have hCh := hCh.trans (hc_.mono fun k hk => Or.inr hk)
          have hB9 := hB9.chg hc_ hn11
          have hB11 : Bk wA g11 (evC 2 (draw (nx S) (i : Int)) (draw (nx (nx S)) (i : Int)) 0 0 0) := hB_
          refine W.nil ?_
          refine At.blockNormal ?_
          refine At.thenMid (0) (Sub.cons (rfl) (Sub.cons (rfl) (Sub.cons (rfl) (Sub.cons (rfl) (Sub.cons (rfl) (Sub.cons (rfl) (Sub.nil))))))) (show Chg (fun k => k = g26 ∨ k = g11) wS _ ∧ Bk _ g26 [.int .i64 ((evS S : Nat) : Int)] ∧ Bk _ g11 (evL S (i : Int)) from ?_)
          exact ⟨hCh, by unfold evS; rw [if_pos c39]; exact hB9, by unfold evL; rw [if_pos c39]; exact hB11⟩
        · refine C.seq ?_
          refine C.region ?_
          refine W.eqlI rfl rfl rfl ?_
          refine W.assign rfl rfl ?_
          refine W.nil ?_
          refine At.thenCode ?_
          first | refine C.condD rfl (fun c50 => ?_) (fun c50 => ?_) | refine C.cond rfl (fun c50 => ?_) (fun c50 => ?_)
          · refine C.seq ?_
            refine C.region ?_
            refine W.fieldB (off := 0) (size := 1) (t := 3) (Fld.of (by kernel_rfl)) rfl rfl rfl ?_
            refine W.store1 rfl rfl rfl hB11 (by rw [evC_length]; decide) (by kernel_rfl) ?_
            intro wA hc_ hB_
            have hCh := hCh.trans (hc_.mono fun k hk => Or.inr hk)
            have hB9 := hB9.chg hc_ hn11
            have hB11 : Bk wA g11 (evC 3 0 0 0 0 0) := hB_
            refine W.nil ?_
            refine At.thenCode ?_
            refine C.seq ?_
            refine C.region ?_
            refine W.move rfl rfl ?_
            refine W.move rfl rfl ?_
            refine W.call Try.call17 rfl (Gen.RNext_ok g26 _ (i : Int) _ (nx_lt _) hB9) rfl ?_
            rintro v_ wA ⟨rfl, hc_, hB_⟩
            have hCh := hCh.trans (hc_.mono fun k hk => Or.inl hk)
            have hB11 := hB11.chg hc_ (fun e => hn11 e.symm)
            have hB9 := hB_
            refine W.fieldB (off := 1) (size := 1) (t := 3) (Fld.of (by kernel_rfl)) rfl rfl rfl ?_
            refine W.store1 rfl rfl rfl hB11 (by rw [evC_length]; decide) (by kernel_rfl) ?_
            intro wA hc_ hB_
            have hCh := hCh.trans (hc_.mono fun k hk => Or.inr hk)
            have hB9 := hB9.chg hc_ hn11
            have hB11 : Bk wA g11 (evC 3 (draw (nx S) (i : Int)) 0 0 0 0) := hB_
            refine W.nil ?_
            refine At.thenCode ?_
            refine C.region ?_
            refine W.move rfl rfl ?_
            refine W.call Try.call17 rfl (Gen.RNext_ok g26 _ 256 _ (nx_lt _) hB9) rfl ?_
            rintro v_ wA ⟨rfl, hc_, hB_⟩
            have hCh := hCh.trans (hc_.mono fun k hk => Or.inl hk)
            have hB11 := hB11.chg hc_ (fun e => hn11 e.symm)
            have hB9 := hB_
            have hdl := draw_lt (s := nx (nx S)) (n := 256) (by decide)
            refine W.convIN (M := 256) rfl Try.underlying3 Try.underlying5 rfl rfl hdl rfl ?_
            refine W.eqv (v' := .int .u8 (draw (nx (nx S)) 256)) (by rw [Int.toNat_of_nonneg hdl.1]) ?_
            refine W.fieldB (off := 10) (size := 32) (t := 68) (Fld.of (by kernel_rfl)) rfl rfl rfl ?_
            refine W.indexA (j := 0) X8 Try.underlying68 rfl rfl rfl (by decide) rfl ?_
            refine W.store1 rfl rfl rfl hB11 (by rw [evC_length]; decide) (by kernel_rfl) ?_
            intro wA hc_ hB_
            have hCh := hCh.trans (hc_.mono fun k hk => Or.inr hk)
            have hB9 := hB9.chg hc_ hn11
            have hB11 : Bk wA g11 (evC 3 (draw (nx S) (i : Int)) 0 0 0 (draw (nx (nx S)) 256)) := hB_
            refine W.nil ?_
            refine At.blockNormal ?_
            refine At.thenMid (0) (Sub.cons (rfl) (Sub.cons (rfl) (Sub.cons (rfl) (Sub.cons (rfl) (Sub.cons (rfl) (Sub.cons (rfl) (Sub.nil))))))) (show Chg (fun k => k = g26 ∨ k = g11) wS _ ∧ Bk _ g26 [.int .i64 ((evS S : Nat) : Int)] ∧ Bk _ g11 (evL S (i : Int)) from ?_)
            exact ⟨hCh, by unfold evS; rw [if_neg c39, if_pos c50]; exact hB9, by unfold evL; rw [if_neg c39, if_pos c50]; exact hB11⟩
          · refine C.seq ?_
            refine C.region ?_
            refine W.eqlI rfl rfl rfl ?_
            refine W.assign rfl rfl ?_
            refine W.nil ?_
            refine At.thenCode ?_
            first | refine C.condD rfl (fun c62 => ?_) (fun c62 => ?_) | refine C.cond rfl (fun c62 => ?_) (fun c62 => ?_)
            · refine C.seq ?_
              refine C.region ?_
              refine W.fieldB (off := 0) (size := 1) (t := 3) (Fld.of (by kernel_rfl)) rfl rfl rfl ?_
              refine W.store1 rfl rfl rfl hB11 (by rw [evC_length]; decide) (by kernel_rfl) ?_
              intro wA hc_ hB_
              have hCh := hCh.trans (hc_.mono fun k hk => Or.inr hk)
              have hB9 := hB9.chg hc_ hn11
              have hB11 : Bk wA g11 (evC 4 0 0 0 0 0) := hB_
              refine W.nil ?_
              refine At.thenCode ?_
              refine C.region ?_
              refine W.move rfl rfl ?_
              refine W.move rfl rfl ?_
              refine W.call Try.call17 rfl (Gen.RNext_ok g26 _ (i : Int) _ (nx_lt _) hB9) rfl ?_
              rintro v_ wA ⟨rfl, hc_, hB_⟩
              have hCh := hCh.trans (hc_.mono fun k hk => Or.inl hk)
              have hB11 := hB11.chg hc_ (fun e => hn11 e.symm)
              have hB9 := hB_
              refine W.fieldB (off := 1) (size := 1) (t := 3) (Fld.of (by kernel_rfl)) rfl rfl rfl ?_
              refine W.store1 rfl rfl rfl hB11 (by rw [evC_length]; decide) (by kernel_rfl) ?_
              intro wA hc_ hB_
              have hCh := hCh.trans (hc_.mono fun k hk => Or.inr hk)
              have hB9 := hB9.chg hc_ hn11
              have hB11 : Bk wA g11 (evC 4 (draw (nx S) (i : Int)) 0 0 0 0) := hB_
              refine W.nil ?_
              refine At.blockNormal ?_
              refine At.thenMid (0) (Sub.cons (rfl) (Sub.cons (rfl) (Sub.cons (rfl) (Sub.cons (rfl) (Sub.cons (rfl) (Sub.cons (rfl) (Sub.nil))))))) (show Chg (fun k => k = g26 ∨ k = g11) wS _ ∧ Bk _ g26 [.int .i64 ((evS S : Nat) : Int)] ∧ Bk _ g11 (evL S (i : Int)) from ?_)
              exact ⟨hCh, by unfold evS; rw [if_neg c39, if_neg c50, if_pos c62]; exact hB9, by unfold evL; rw [if_neg c39, if_neg c50, if_pos c62]; exact hB11⟩
            · refine C.seq ?_
              refine C.region ?_
              refine W.eqlI rfl rfl rfl ?_
              refine W.assign rfl rfl ?_
              refine W.nil ?_
              refine At.thenCode ?_
              first | refine C.condD rfl (fun c69 => ?_) (fun c69 => ?_) | refine C.cond rfl (fun c69 => ?_) (fun c69 => ?_)
              · refine C.seq ?_
                refine C.region ?_
                refine W.fieldB (off := 0) (size := 1) (t := 3) (Fld.of (by kernel_rfl)) rfl rfl rfl ?_
                refine W.store1 rfl rfl rfl hB11 (by rw [evC_length]; decide) (by kernel_rfl) ?_
                intro wA hc_ hB_
                have hCh := hCh.trans (hc_.mono fun k hk => Or.inr hk)
                have hB9 := hB9.chg hc_ hn11
                have hB11 : Bk wA g11 (evC 7 0 0 0 0 0) := hB_
                refine W.nil ?_
                refine At.thenCode ?_
                refine C.seq ?_
                refine C.region ?_
                refine W.move rfl rfl ?_
                refine W.move rfl rfl ?_
                refine W.call Try.call17 rfl (Gen.RNext_ok g26 _ (i : Int) _ (nx_lt _) hB9) rfl ?_
                rintro v_ wA ⟨rfl, hc_, hB_⟩
                have hCh := hCh.trans (hc_.mono fun k hk => Or.inl hk)
                have hB11 := hB11.chg hc_ (fun e => hn11 e.symm)
                have hB9 := hB_
                refine W.fieldB (off := 1) (size := 1) (t := 3) (Fld.of (by kernel_rfl)) rfl rfl rfl ?_
                refine W.store1 rfl rfl rfl hB11 (by rw [evC_length]; decide) (by kernel_rfl) ?_
                intro wA hc_ hB_
                have hCh := hCh.trans (hc_.mono fun k hk => Or.inr hk)
                have hB9 := hB9.chg hc_ hn11
                have hB11 : Bk wA g11 (evC 7 (draw (nx S) (i : Int)) 0 0 0 0) := hB_
                refine W.nil ?_
                refine At.thenCode ?_
                refine C.region ?_
                refine W.move rfl rfl ?_
                refine W.call Try.call17 rfl (Gen.RNext_ok g26 _ 3 _ (nx_lt _) hB9) rfl ?_
                rintro v_ wA ⟨rfl, hc_, hB_⟩
                have hCh := hCh.trans (hc_.mono fun k hk => Or.inl hk)
                have hB11 := hB11.chg hc_ (fun e => hn11 e.symm)
                have hB9 := hB_
                refine W.fieldB (off := 3) (size := 1) (t := 3) (Fld.of (by kernel_rfl)) rfl rfl rfl ?_
                refine W.store1 rfl rfl rfl hB11 (by rw [evC_length]; decide) (by kernel_rfl) ?_
                intro wA hc_ hB_
                have hCh := hCh.trans (hc_.mono fun k hk => Or.inr hk)
                have hB9 := hB9.chg hc_ hn11
                have hB11 : Bk wA g11 (evC 7 (draw (nx S) (i : Int)) 0 (draw (nx (nx S)) 3) 0 0) := hB_
                refine W.nil ?_
                refine At.blockNormal ?_
                refine At.thenMid (0) (Sub.cons (rfl) (Sub.cons (rfl) (Sub.cons (rfl) (Sub.cons (rfl) (Sub.cons (rfl) (Sub.cons (rfl) (Sub.nil))))))) (show Chg (fun k => k = g26 ∨ k = g11) wS _ ∧ Bk _ g26 [.int .i64 ((evS S : Nat) : Int)] ∧ Bk _ g11 (evL S (i : Int)) from ?_)
                exact ⟨hCh, by unfold evS; rw [if_neg c39, if_neg c50, if_neg c62, if_pos c69]; exact hB9, by unfold evL; rw [if_neg c39, if_neg c50, if_neg c62, if_pos c69]; exact hB11⟩
              · refine C.seq ?_
                refine C.region ?_
                refine W.eqlI rfl rfl rfl ?_
                refine W.assign rfl rfl ?_
                refine W.nil ?_
                refine At.thenCode ?_
                first | refine C.condD rfl (fun c79 => ?_) (fun c79 => ?_) | refine C.cond rfl (fun c79 => ?_) (fun c79 => ?_)
                · refine C.seq ?_
                  refine C.region ?_
                  refine W.fieldB (off := 0) (size := 1) (t := 3) (Fld.of (by kernel_rfl)) rfl rfl rfl ?_
                  refine W.store1 rfl rfl rfl hB11 (by rw [evC_length]; decide) (by kernel_rfl) ?_
                  intro wA hc_ hB_
                  have hCh := hCh.trans (hc_.mono fun k hk => Or.inr hk)
                  have hB9 := hB9.chg hc_ hn11
                  have hB11 : Bk wA g11 (evC 10 0 0 0 0 0) := hB_
                  refine W.nil ?_
                  refine At.thenCode ?_
                  refine C.region ?_
                  refine W.move rfl rfl ?_
                  refine W.move rfl rfl ?_
                  refine W.call Try.call17 rfl (Gen.RNext_ok g26 _ (i : Int) _ (nx_lt _) hB9) rfl ?_
                  rintro v_ wA ⟨rfl, hc_, hB_⟩
                  have hCh := hCh.trans (hc_.mono fun k hk => Or.inl hk)
                  have hB11 := hB11.chg hc_ (fun e => hn11 e.symm)
                  have hB9 := hB_
                  refine W.fieldB (off := 1) (size := 1) (t := 3) (Fld.of (by kernel_rfl)) rfl rfl rfl ?_
                  refine W.store1 rfl rfl rfl hB11 (by rw [evC_length]; decide) (by kernel_rfl) ?_
                  intro wA hc_ hB_
                  have hCh := hCh.trans (hc_.mono fun k hk => Or.inr hk)
                  have hB9 := hB9.chg hc_ hn11
                  have hB11 : Bk wA g11 (evC 10 (draw (nx S) (i : Int)) 0 0 0 0) := hB_
                  refine W.nil ?_
                  refine At.blockNormal ?_
                  refine At.thenMid (0) (Sub.cons (rfl) (Sub.cons (rfl) (Sub.cons (rfl) (Sub.cons (rfl) (Sub.cons (rfl) (Sub.cons (rfl) (Sub.nil))))))) (show Chg (fun k => k = g26 ∨ k = g11) wS _ ∧ Bk _ g26 [.int .i64 ((evS S : Nat) : Int)] ∧ Bk _ g11 (evL S (i : Int)) from ?_)
                  exact ⟨hCh, by unfold evS; rw [if_neg c39, if_neg c50, if_neg c62, if_neg c69, if_pos c79]; exact hB9, by unfold evL; rw [if_neg c39, if_neg c50, if_neg c62, if_neg c69, if_pos c79]; exact hB11⟩
                · refine C.region ?_
                  refine W.fieldB (off := 0) (size := 1) (t := 3) (Fld.of (by kernel_rfl)) rfl rfl rfl ?_
                  refine W.store1 rfl rfl rfl hB11 (by rw [evC_length]; decide) (by kernel_rfl) ?_
                  intro wA hc_ hB_
                  have hCh := hCh.trans (hc_.mono fun k hk => Or.inr hk)
                  have hB9 := hB9.chg hc_ hn11
                  have hB11 : Bk wA g11 (evC 8 0 0 0 0 0) := hB_
                  refine W.nil ?_
                  refine At.blockNormal ?_
                  refine At.thenMid (0) (Sub.cons (rfl) (Sub.cons (rfl) (Sub.cons (rfl) (Sub.cons (rfl) (Sub.cons (rfl) (Sub.cons (rfl) (Sub.nil))))))) (show Chg (fun k => k = g26 ∨ k = g11) wS _ ∧ Bk _ g26 [.int .i64 ((evS S : Nat) : Int)] ∧ Bk _ g11 (evL S (i : Int)) from ?_)
                  exact ⟨hCh, by unfold evS; rw [if_neg c39, if_neg c50, if_neg c62, if_neg c69, if_neg c79]; exact hB9, by unfold evL; rw [if_neg c39, if_neg c50, if_neg c62, if_neg c69, if_neg c79]; exact hB11⟩
      · rintro z wm4 hI_
        replace hI_ : Chg (fun k => k = g26 ∨ k = g11) wS wm4 ∧ Bk wm4 g26 [.int .i64 ((evS S : Nat) : Int)] ∧ Bk wm4 g11 (evL S (i : Int)) := hI_
        obtain ⟨hCm, hB9, hB11⟩ := hI_
        refine C.weaken (l' := [(1, .int .i64 (i : Int)), (2, .int .i64 (Cn : Int)), (7, v), (9, .pointer (some ⟨g26, 0, none⟩)), (10, .int .i64 (j : Int)), (11, .pointer (some ⟨g11, 0, none⟩))]) (Sub.cons (rfl) (Sub.cons (rfl) (Sub.cons (rfl) (Sub.cons (rfl) (Sub.cons (rfl) (Sub.cons (rfl) (Sub.nil))))))) ?_
        refine C.region ?_
        refine W.move rfl rfl ?_
        have hEl := ev_length S (i : Int)
        have hcm : Cells wm4 ⟨g11, 0, none⟩ (evL S (i : Int)) := by have := hB11.cells (o := 0); rwa [List.drop_zero] at this
        refine W.loadA rfl hcm Try.underlying70 rfl (by rw [hEl]; kernel_rfl) rfl ?_
        refine W.litS (evL S (i : Int)) EE Try.underlying39 rfl (ev_length _ _) (by decide) rfl ?_
        intro g36 w36 hg36 hX36 _ hS36
        have hXm : Ext w wm4 := (hX2.ext hXS).news hCm (fun k hk => Or.inr (by have := hX2.size; omega))
        have hltv : ∀ k, v.ownBlock = some k → k < w2.heap.size := fun k hk => (World.ownsRow.lt hO2 k hk).2
        have hOm := ownsRow_chg (ownsRow_ext hO2 hXS) hCm (fun k hk h => by have := hne k hk; have := hltv k hk; omega)
        have hO36 := ownsRow_ext hOm hX36
        have hB36 := hB9.ext hX36
        refine W.append EE Try.underlying39 rfl rfl hO36 hS36 (ev_typed _ _).one (by omega) (by omega) (by have := hXm.size; have := hX36.size; omega) rfl ?_
        intro v37 w37 ho37 hg37 hv37
        have hX37 : Ext w w37 := (hXm.ext hX36).news (Chg.of_grown hg37) (fun k hk => Or.inr ((World.ownsRow.lt hO36 k hk.symm).1))
        have hB37 := hB36.chg (Chg.of_grown hg37) (fun hk => hne _ hk.symm rfl)
        have hlt36 := hB36.lt
        have hne37 : ∀ k, v37.ownBlock = some k → k ≠ g26 := fun k hk => by
          rcases hv37 with h | ⟨k', h, hk'⟩
          · exact hne k (h ▸ hk)
          · rw [h] at hk; obtain rfl := Option.some.inj hk; omega
        refine W.assign rfl rfl ?_
        refine W.nil ?_
        refine At.blockNormal ?_
        refine At.thenCode ?_
        refine C.region ?_
        refine W.move rfl rfl ?_
        first | refine W.addI rfl rfl (by omega) rfl ?_ | refine W.addW rfl rfl rfl ?_
        refine W.assign rfl rfl ?_
        refine W.nil ?_
        refine At.thenRound (j + 1, v37) (Sub.cons (rfl) (Sub.cons (rfl) (Sub.cons (rfl) (Sub.cons (rfl) (Sub.cons (look_eq rfl (by rw [show (j : Int) + 1 = ((j + 1 : Nat) : Int) by omega])) (Sub.nil)))))) (show Ext w _ ∧ (j + 1) ≤ Cn ∧ World.ownsRow _ w.heap.size 70 42 (v37) (i + (j + 1)) (evA (st0 seed) (i : Int) i (j + 1)) ∧ Bk _ g26 [.int .i64 ((stA (st0 seed) (j + 1) : Nat) : Int)] ∧ ∀ k, (v37).ownBlock = some k → k ≠ g26 from ?_) (show Cn - (j + 1) < Cn - j from ?_)
        · refine ⟨hX37, by omega, ?_, ?_, hne37⟩
          · rw [evA, ← hS]; exact ho37
          · rw [stA, ← hS]; exact hB37
        · omega
    · obtain rfl : j = Cn := by omega
      obtain ⟨ao2, c2, rfl, hS2, _⟩ := ownsRow_form hO2
      refine C.exit ?_
      refine At.thenExit ?_
      refine At.thenExit ?_
      refine At.blockSelf ?_
      refine At.thenCode ?_
      refine C.seq ?_
      refine C.region ?_
      refine W.move rfl rfl ?_
      refine W.assign rfl rfl ?_
      refine W.nil ?_
      refine At.thenCode ?_
      refine C.ret ?_
      refine At.ret1 Try.results20 rfl ?_
      exact ⟨⟨ao2, c2, by unfold eventsN; rw [hU, hC], by unfold eventsN eventsC; rw [← hU, ← hC]; exact hS2⟩, hX2⟩
end Go.Proofs.Ytenjokoialgjbaa.Gen
