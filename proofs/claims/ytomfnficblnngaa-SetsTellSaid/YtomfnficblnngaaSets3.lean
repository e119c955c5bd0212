/- Sets of chains: the reference's sets, and the groups of names. -/
import Derived.Test.YtomfnficblnngaaSets2
import Derived.Test.YtomfnficblnngaaRSha
import Derived.Test.YtomfnficblnngaaKx
namespace Go.Proofs.Ytomfnficblnngaa.Sets
open Go Go.RowKit Go.Proofs.Ytomfnficblnngaa.KW Go.Proofs.Ytomfnficblnngaa.Words Go.Proofs.Ytomfnficblnngaa.Sha Go.Proofs.Ytomfnficblnngaa.RSha
set_option linter.unusedVariables false
set_option linter.unusedSimpArgs false
set_option maxRecDepth 100000

theorem RSet_ok (g n : Int) (w : World) (hg : -9223372036854775808 ≤ g ∧ g ≤ 9223372036854775807) (hn : -9223372036854775808 ≤ n ∧ n ≤ 9223372036854775807) : Ct Try.prog 35 #[.int .i64 g, .int .i64 n] w (fun v w' => (∃ ao c, v = .tuple #[.slice ao (setR g n).length c, .int .i64 (setE g n : Int)] ∧ Zs w' ao c (setR g n) ∧ ∀ ad, ao = some ad → w.heap.size ≤ ad.block) ∧ Ext w w') := by
  refine Ct.enter [(0, .int .i64 g), (1, .int .i64 n)] Try.func35 rfl rfl rfl rfl ?_
  have hL := sidesN_le n
  refine C.seq ?_
  refine C.region ?_
  refine W.assign rfl rfl ?_
  refine W.assign rfl rfl ?_
  refine W.nil ?_
  refine At.thenCode ?_
  refine C.seq ?_
  refine C.seq ?_
  refine C.region ?_
  refine W.move rfl rfl ?_
  refine W.call Try.call53 rfl (Sets.chainsRight_ok _ _) rfl ?_
  rintro v11 w11 ⟨rfl, rfl⟩
  first | refine W.notD rfl rfl ?_ | refine W.notB rfl rfl ?_
  refine W.move rfl rfl ?_
  first | refine W.splitD (fun g13 => ?_) (fun g13 => ?_) | refine W.splitB (fun g13 => ?_) (fun g13 => ?_)
  · refine W.skips rfl rfl rfl rfl rfl rfl ?_
    refine W.skips rfl rfl rfl rfl rfl rfl ?_
    refine W.pickT rfl rfl rfl ?_
    refine W.move rfl rfl ?_
    refine W.skips rfl rfl rfl rfl rfl rfl ?_
    refine W.skips rfl rfl rfl rfl rfl rfl ?_
    refine W.skips rfl rfl rfl rfl rfl rfl ?_
    refine W.skips rfl rfl rfl rfl rfl rfl ?_
    refine W.pickT rfl rfl rfl ?_
    refine W.nil ?_
    refine At.thenCode ?_
    refine C.condT rfl ?_
    refine C.seq ?_
    refine C.region ?_
    refine W.assign rfl rfl ?_
    refine W.assign rfl rfl ?_
    refine W.nil ?_
    refine At.thenCode ?_
    refine C.ret ?_
    refine At.thenRet ?_
    refine At.ret2 Try.results35 rfl rfl ?_
    first
    | exact ⟨⟨ao1, c1, by unfold setR setE; rw [if_pos hok, if_pos hok]; rfl, by unfold setR; rw [if_pos hok]; exact hS1, hb1⟩, hX1⟩
    | (have hno : ¬ groupOk g n := by
         intro h
         have h1 := h.1
         have h2 := h.2
         first | omega | (simp_all; done) | (have g13' : ¬ okN n := by simpa using g13
                                             exact g13' h1)
       exact ⟨⟨none, 0, by unfold setR setE; rw [if_neg hno, if_neg hno]; rfl, by unfold setR; rw [if_neg hno]; exact Sl.none _ 1, fun ad h => by cases h⟩, Ext.refl _⟩)
  · refine W.wants rfl rfl rfl rfl ?_
    refine W.move rfl rfl ?_
    refine W.wants rfl rfl rfl rfl ?_
    refine W.lssI rfl rfl rfl ?_
    refine W.pickF rfl rfl rfl ?_
    refine W.move rfl rfl ?_
    first | refine W.splitD (fun g17 => ?_) (fun g17 => ?_) | refine W.splitB (fun g17 => ?_) (fun g17 => ?_)
    · refine W.skips rfl rfl rfl rfl rfl rfl ?_
      refine W.skips rfl rfl rfl rfl rfl rfl ?_
      refine W.skips rfl rfl rfl rfl rfl rfl ?_
      refine W.skips rfl rfl rfl rfl rfl rfl ?_
      refine W.pickT rfl rfl rfl ?_
      refine W.nil ?_
      refine At.thenCode ?_
      refine C.condT rfl ?_
      refine C.seq ?_
      refine C.region ?_
      refine W.assign rfl rfl ?_
      refine W.assign rfl rfl ?_
      refine W.nil ?_
      refine At.thenCode ?_
      refine C.ret ?_
      refine At.thenRet ?_
      refine At.ret2 Try.results35 rfl rfl ?_
      first
      | exact ⟨⟨ao1, c1, by unfold setR setE; rw [if_pos hok, if_pos hok]; rfl, by unfold setR; rw [if_pos hok]; exact hS1, hb1⟩, hX1⟩
      | (have hno : ¬ groupOk g n := by
           intro h
           have h1 := h.1
           have h2 := h.2
           first | omega | (simp_all; done) | (have g13' : ¬ okN n := by simpa using g13
                                               exact g13' h1)
         exact ⟨⟨none, 0, by unfold setR setE; rw [if_neg hno, if_neg hno]; rfl, by unfold setR; rw [if_neg hno]; exact Sl.none _ 1, fun ad h => by cases h⟩, Ext.refl _⟩)
    · refine W.wants rfl rfl rfl rfl ?_
      refine W.move rfl rfl ?_
      refine W.wants rfl rfl rfl rfl ?_
      refine W.move rfl rfl ?_
      refine W.wants rfl rfl rfl rfl ?_
      refine W.call Try.call38 rfl (Sets.RSides_ok _ _ (by omega)) rfl ?_
      rintro v20 w20 ⟨rfl, rfl⟩
      refine W.wants rfl rfl rfl rfl ?_
      refine W.gtrI rfl rfl rfl ?_
      refine W.pickF rfl rfl rfl ?_
      refine W.nil ?_
      refine At.thenCode ?_
      first | refine C.condD rfl (fun c22 => ?_) (fun c22 => ?_) | refine C.cond rfl (fun c22 => ?_) (fun c22 => ?_)
      · refine C.seq ?_
        refine C.region ?_
        refine W.assign rfl rfl ?_
        refine W.assign rfl rfl ?_
        refine W.nil ?_
        refine At.thenCode ?_
        refine C.ret ?_
        refine At.thenRet ?_
        refine At.ret2 Try.results35 rfl rfl ?_
        first
        | exact ⟨⟨ao1, c1, by unfold setR setE; rw [if_pos hok, if_pos hok]; rfl, by unfold setR; rw [if_pos hok]; exact hS1, hb1⟩, hX1⟩
        | (have hno : ¬ groupOk g n := by
             intro h
             have h1 := h.1
             have h2 := h.2
             first | omega | (simp_all; done) | (have g13' : ¬ okN n := by simpa using g13
                                                 exact g13' h1)
           exact ⟨⟨none, 0, by unfold setR setE; rw [if_neg hno, if_neg hno]; rfl, by unfold setR; rw [if_neg hno]; exact Sl.none _ 1, fun ad h => by cases h⟩, Ext.refl _⟩)
      · have hok : groupOk g n := ⟨by simpa using g13, by omega, by omega⟩
        have hn1 : 1 ≤ n ∧ n ≤ 1048576 := hok.1
        have hg0 := hok.2
        refine C.skip ?_
        refine At.thenCode ?_
        refine C.seq ?_
        refine C.region ?_
        refine W.assign rfl rfl ?_
        refine W.nil ?_
        refine At.thenCode ?_
        refine C.seq ?_
        refine C.seq ?_
        refine C.region ?_
        refine W.assign rfl rfl ?_
        refine W.nil ?_
        refine At.thenCode ?_
        refine C.block ?_
        refine C.loop (X := Nat × Value) (fun x_ => [(0, .int .i64 g), (1, .int .i64 n), (6, x_.2), (7, .int .i64 (x_.1 : Int))]) (fun x_ w1 => Ext w w1 ∧ x_.1 ≤ sidesN n + 1 ∧ World.ownsRow w1 w.heap.size 3 1 x_.2 (setP g n x_.1).length ((setP g n x_.1).map (.int .i64))) (fun x_ => sidesN n + 1 - x_.1) (0, .slice none 0 0) (Sub.cons (rfl) (Sub.cons (rfl) (Sub.cons (rfl) (Sub.cons (rfl) (Sub.nil))))) ?start1 ?_
        case start1 =>
          show Ext w _ ∧ (0) ≤ sidesN n + 1 ∧ World.ownsRow _ w.heap.size 3 1 (.slice none 0 0) (setP g n (0)).length ((setP g n (0)).map (.int .i64))
          exact ⟨Ext.refl _, by omega, World.ownsRow_nil _ _ _ _⟩
        rintro ⟨i, v⟩ w1 hI_
        replace hI_ : Ext w w1 ∧ i ≤ sidesN n + 1 ∧ World.ownsRow w1 w.heap.size 3 1 v (setP g n i).length ((setP g n i).map (.int .i64)) := hI_
        obtain ⟨hX1, hi, hO1⟩ := hI_
        refine C.weaken (l' := [(0, .int .i64 g), (1, .int .i64 n), (6, v), (7, .int .i64 (i : Int))]) (Sub.cons (rfl) (Sub.cons (rfl) (Sub.cons (rfl) (Sub.cons (rfl) (Sub.nil))))) ?_
        refine C.seq ?_
        refine C.seq ?_
        refine C.region ?_
        refine W.move rfl rfl ?_
        refine W.move rfl rfl ?_
        refine W.call Try.call38 rfl (Sets.RSides_ok _ _ (by omega)) rfl ?_
        rintro v25 w25 ⟨rfl, rfl⟩
        refine W.leqI rfl rfl rfl ?_
        refine W.nil ?_
        refine At.thenCode ?_
        first | refine C.condD rfl (fun c26 => ?_) (fun c26 => ?_) | refine C.cond rfl (fun c26 => ?_) (fun c26 => ?_)
        · have hpl := pair_le g i
          have hpm := setP_max g n i
          refine C.skip ?_
          refine At.thenCode ?_
          refine C.seq ?_
          refine C.block ?_
          refine C.seq ?_
          refine C.region ?_
          refine W.move rfl rfl ?_
          refine W.move rfl rfl ?_
          refine W.neqI rfl rfl rfl ?_
          refine W.nil ?_
          refine At.thenCode ?_
          first | refine C.condD rfl (fun c31 => ?_) (fun c31 => ?_) | refine C.cond rfl (fun c31 => ?_) (fun c31 => ?_)
          · refine C.seq ?_
            refine C.region ?_
            refine W.move rfl rfl ?_
            refine W.move rfl rfl ?_
            refine W.call Try.call54 rfl (Sets.RPair_ok _ _ _ (by omega) (by omega)) rfl ?_
            rintro v35 w35 ⟨rfl, rfl⟩
            refine W.move rfl rfl ?_
            refine W.extract rfl rfl rfl ?_
            refine W.extract rfl rfl rfl ?_
            refine W.assign rfl rfl ?_
            refine W.assign rfl rfl ?_
            refine W.nil ?_
            refine At.thenCode ?_
            refine C.region ?_
            refine W.move rfl rfl ?_
            refine W.move rfl rfl ?_
            refine W.move rfl rfl ?_
            first | refine W.remI rfl rfl (by omega) rfl ?_ | refine W.remW rfl rfl (by omega) rfl ?_
            refine W.litV [.int .i64 ((pairN g i : Int) % n)] XI Try.underlying48 rfl rfl (fun u hu => by simp at hu; subst hu; rfl) rfl rfl rfl ?_
            intro g32 w32 hg32 hX32 _ hS32
            have hO32 := ownsRow_ext hO1 hX32
            refine W.append XI Try.underlying48 rfl rfl hO32 hS32 (fun u hu => by simp at hu; subst hu; rfl) (by simp only [List.length_singleton]; omega) (by simp only [List.length_singleton]; omega) (by have := hX1.size; have := hX32.size; omega) rfl ?_
            intro v33 w33 ho33 hg33 _
            have hX33 : Ext w w33 := (hX1.ext hX32).news (Chg.of_grown hg33) (fun k hk => Or.inr ((World.ownsRow.lt hO32 k hk.symm).1))
            refine W.assign rfl rfl ?_
            refine W.nil ?_
            refine At.blockNormal ?_
            refine At.thenCode ?_
            refine C.region ?_
            refine W.move rfl rfl ?_
            first | refine W.addI rfl rfl (by omega) rfl ?_ | refine W.addW rfl rfl rfl ?_
            refine W.assign rfl rfl ?_
            refine W.nil ?_
            refine At.thenRound (i + 1, v33) (Sub.cons (rfl) (Sub.cons (rfl) (Sub.cons (rfl) (Sub.cons (look_eq rfl (by rw [show (i : Int) + 1 = ((i + 1 : Nat) : Int) by omega])) (Sub.nil))))) (show Ext w _ ∧ (i + 1) ≤ sidesN n + 1 ∧ World.ownsRow _ w.heap.size 3 1 (v33) (setP g n (i + 1)).length ((setP g n (i + 1)).map (.int .i64)) from ?_) (show sidesN n + 1 - (i + 1) < sidesN n + 1 - i from ?_)
            · refine ⟨hX33, by omega, ?_⟩
              rw [setP, if_neg c31, List.length_append, List.map_append]; exact ho33
            · omega
          · refine C.skip ?_
            refine At.blockNormal ?_
            refine At.thenCode ?_
            refine C.region ?_
            refine W.move rfl rfl ?_
            first | refine W.addI rfl rfl (by omega) rfl ?_ | refine W.addW rfl rfl rfl ?_
            refine W.assign rfl rfl ?_
            refine W.nil ?_
            refine At.thenRound (i + 1, v) (Sub.cons (rfl) (Sub.cons (rfl) (Sub.cons (rfl) (Sub.cons (look_eq rfl (by rw [show (i : Int) + 1 = ((i + 1 : Nat) : Int) by omega])) (Sub.nil))))) (show Ext w _ ∧ (i + 1) ≤ sidesN n + 1 ∧ World.ownsRow _ w.heap.size 3 1 (v) (setP g n (i + 1)).length ((setP g n (i + 1)).map (.int .i64)) from ?_) (show sidesN n + 1 - (i + 1) < sidesN n + 1 - i from ?_)
            · refine ⟨hX1, by omega, ?_⟩
              have hig : (i : Int) = g := by simpa using c31
              rw [setP, if_pos hig]; exact hO1
            · omega
        · obtain rfl : i = sidesN n + 1 := by omega
          obtain ⟨ao1, c1, rfl, hS1, hb1⟩ := ownsRow_form hO1
          refine C.exit ?_
          refine At.thenExit ?_
          refine At.thenExit ?_
          refine At.blockSelf ?_
          refine At.thenCode ?_
          refine C.seq ?_
          refine C.region ?_
          refine W.move rfl rfl ?_
          refine W.assign rfl rfl ?_
          refine W.assign rfl rfl ?_
          refine W.nil ?_
          refine At.thenCode ?_
          refine C.ret ?_
          refine At.ret2 Try.results35 rfl rfl ?_
          first
          | exact ⟨⟨ao1, c1, by unfold setR setE; rw [if_pos hok, if_pos hok]; rfl, by unfold setR; rw [if_pos hok]; exact hS1, hb1⟩, hX1⟩
          | (have hno : ¬ groupOk g n := by
               intro h
               have h1 := h.1
               have h2 := h.2
               first | omega | (simp_all; done) | (have g13' : ¬ okN n := by simpa using g13
                                                   exact g13' h1)
             exact ⟨⟨none, 0, by unfold setR setE; rw [if_neg hno, if_neg hno]; rfl, by unfold setR; rw [if_neg hno]; exact Sl.none _ 1, fun ad h => by cases h⟩, Ext.refl _⟩)
theorem RShared_ok (a b n : Int) (w : World) (ha : -9223372036854775808 ≤ a ∧ a ≤ 9223372036854775807) (hb : -9223372036854775808 ≤ b ∧ b ≤ 9223372036854775807) (hn : -9223372036854775808 ≤ n ∧ n ≤ 9223372036854775807) : Ct Try.prog 40 #[.int .i64 a, .int .i64 b, .int .i64 n] w (fun v w' => v = .tuple #[.int .i64 (sharedN a b n), .int .i64 (sharedE a b n : Int)] ∧ Ext w w') := by
  refine Ct.enter [(0, .int .i64 a), (1, .int .i64 b), (2, .int .i64 n)] Try.func40 rfl rfl rfl rfl ?_
  have hL := sidesN_le n
  refine C.seq ?_
  refine C.region ?_
  refine W.assign rfl rfl ?_
  refine W.assign rfl rfl ?_
  refine W.nil ?_
  refine At.thenCode ?_
  refine C.seq ?_
  refine C.seq ?_
  refine C.region ?_
  refine W.move rfl rfl ?_
  refine W.call Try.call53 rfl (Sets.chainsRight_ok _ _) rfl ?_
  rintro v13 w13 ⟨rfl, rfl⟩
  first | refine W.notD rfl rfl ?_ | refine W.notB rfl rfl ?_
  refine W.move rfl rfl ?_
  first | refine W.splitD (fun g15 => ?_) (fun g15 => ?_) | refine W.splitB (fun g15 => ?_) (fun g15 => ?_)
  · refine W.skips rfl rfl rfl rfl rfl rfl ?_
    refine W.skips rfl rfl rfl rfl rfl rfl ?_
    refine W.pickT rfl rfl rfl ?_
    refine W.move rfl rfl ?_
    refine W.skips rfl rfl rfl rfl rfl rfl ?_
    refine W.skips rfl rfl rfl rfl rfl rfl ?_
    refine W.pickT rfl rfl rfl ?_
    refine W.move rfl rfl ?_
    refine W.skips rfl rfl rfl rfl rfl rfl ?_
    refine W.skips rfl rfl rfl rfl rfl rfl ?_
    refine W.skips rfl rfl rfl rfl rfl rfl ?_
    refine W.skips rfl rfl rfl rfl rfl rfl ?_
    refine W.pickT rfl rfl rfl ?_
    refine W.move rfl rfl ?_
    refine W.skips rfl rfl rfl rfl rfl rfl ?_
    refine W.skips rfl rfl rfl rfl rfl rfl ?_
    refine W.skips rfl rfl rfl rfl rfl rfl ?_
    refine W.skips rfl rfl rfl rfl rfl rfl ?_
    refine W.pickT rfl rfl rfl ?_
    refine W.nil ?_
    refine At.thenCode ?_
    refine C.condT rfl ?_
    refine C.seq ?_
    refine C.region ?_
    refine W.assign rfl rfl ?_
    refine W.assign rfl rfl ?_
    refine W.nil ?_
    refine At.thenCode ?_
    refine C.ret ?_
    refine At.thenRet ?_
    refine At.ret2 Try.results40 rfl rfl ?_
    first
    | exact ⟨by show Value.tuple #[.int .i64 ((setL a n).headD 0), .int .i64 0] = _; unfold sharedN sharedE; rw [if_pos (And.intro hoka hokb), if_pos c37, if_pos (And.intro hoka hokb)]; rfl, hX41⟩
    | exact ⟨by show Value.tuple #[.int .i64 ((pairN a b : Int) % n), .int .i64 0] = _; unfold sharedN sharedE; rw [if_pos (And.intro hoka hokb), if_neg c37, if_pos (And.intro hoka hokb)]; rfl, Ext.refl _⟩
    | (have hno : ¬ (groupOk a n ∧ groupOk b n) := by
         intro h
         have h1 := h.1.1
         have h2 := h.1.2
         have h3 := h.2.2
         first | omega | (simp_all; done) | (have g15' : ¬ okN n := by simpa using g15
                                             exact g15' h1)
       exact ⟨by unfold sharedN sharedE; rw [if_neg hno, if_neg hno]; rfl, Ext.refl _⟩)
  · refine W.wants rfl rfl rfl rfl ?_
    refine W.move rfl rfl ?_
    refine W.wants rfl rfl rfl rfl ?_
    refine W.lssI rfl rfl rfl ?_
    refine W.pickF rfl rfl rfl ?_
    refine W.move rfl rfl ?_
    first | refine W.splitD (fun g19 => ?_) (fun g19 => ?_) | refine W.splitB (fun g19 => ?_) (fun g19 => ?_)
    · refine W.skips rfl rfl rfl rfl rfl rfl ?_
      refine W.skips rfl rfl rfl rfl rfl rfl ?_
      refine W.pickT rfl rfl rfl ?_
      refine W.move rfl rfl ?_
      refine W.skips rfl rfl rfl rfl rfl rfl ?_
      refine W.skips rfl rfl rfl rfl rfl rfl ?_
      refine W.skips rfl rfl rfl rfl rfl rfl ?_
      refine W.skips rfl rfl rfl rfl rfl rfl ?_
      refine W.pickT rfl rfl rfl ?_
      refine W.move rfl rfl ?_
      refine W.skips rfl rfl rfl rfl rfl rfl ?_
      refine W.skips rfl rfl rfl rfl rfl rfl ?_
      refine W.skips rfl rfl rfl rfl rfl rfl ?_
      refine W.skips rfl rfl rfl rfl rfl rfl ?_
      refine W.pickT rfl rfl rfl ?_
      refine W.nil ?_
      refine At.thenCode ?_
      refine C.condT rfl ?_
      refine C.seq ?_
      refine C.region ?_
      refine W.assign rfl rfl ?_
      refine W.assign rfl rfl ?_
      refine W.nil ?_
      refine At.thenCode ?_
      refine C.ret ?_
      refine At.thenRet ?_
      refine At.ret2 Try.results40 rfl rfl ?_
      first
      | exact ⟨by show Value.tuple #[.int .i64 ((setL a n).headD 0), .int .i64 0] = _; unfold sharedN sharedE; rw [if_pos (And.intro hoka hokb), if_pos c37, if_pos (And.intro hoka hokb)]; rfl, hX41⟩
      | exact ⟨by show Value.tuple #[.int .i64 ((pairN a b : Int) % n), .int .i64 0] = _; unfold sharedN sharedE; rw [if_pos (And.intro hoka hokb), if_neg c37, if_pos (And.intro hoka hokb)]; rfl, Ext.refl _⟩
      | (have hno : ¬ (groupOk a n ∧ groupOk b n) := by
           intro h
           have h1 := h.1.1
           have h2 := h.1.2
           have h3 := h.2.2
           first | omega | (simp_all; done) | (have g15' : ¬ okN n := by simpa using g15
                                               exact g15' h1)
         exact ⟨by unfold sharedN sharedE; rw [if_neg hno, if_neg hno]; rfl, Ext.refl _⟩)
    · refine W.wants rfl rfl rfl rfl ?_
      refine W.move rfl rfl ?_
      refine W.wants rfl rfl rfl rfl ?_
      refine W.lssI rfl rfl rfl ?_
      refine W.pickF rfl rfl rfl ?_
      refine W.move rfl rfl ?_
      first | refine W.splitD (fun g23 => ?_) (fun g23 => ?_) | refine W.splitB (fun g23 => ?_) (fun g23 => ?_)
      · refine W.skips rfl rfl rfl rfl rfl rfl ?_
        refine W.skips rfl rfl rfl rfl rfl rfl ?_
        refine W.skips rfl rfl rfl rfl rfl rfl ?_
        refine W.skips rfl rfl rfl rfl rfl rfl ?_
        refine W.pickT rfl rfl rfl ?_
        refine W.move rfl rfl ?_
        refine W.skips rfl rfl rfl rfl rfl rfl ?_
        refine W.skips rfl rfl rfl rfl rfl rfl ?_
        refine W.skips rfl rfl rfl rfl rfl rfl ?_
        refine W.skips rfl rfl rfl rfl rfl rfl ?_
        refine W.pickT rfl rfl rfl ?_
        refine W.nil ?_
        refine At.thenCode ?_
        refine C.condT rfl ?_
        refine C.seq ?_
        refine C.region ?_
        refine W.assign rfl rfl ?_
        refine W.assign rfl rfl ?_
        refine W.nil ?_
        refine At.thenCode ?_
        refine C.ret ?_
        refine At.thenRet ?_
        refine At.ret2 Try.results40 rfl rfl ?_
        first
        | exact ⟨by show Value.tuple #[.int .i64 ((setL a n).headD 0), .int .i64 0] = _; unfold sharedN sharedE; rw [if_pos (And.intro hoka hokb), if_pos c37, if_pos (And.intro hoka hokb)]; rfl, hX41⟩
        | exact ⟨by show Value.tuple #[.int .i64 ((pairN a b : Int) % n), .int .i64 0] = _; unfold sharedN sharedE; rw [if_pos (And.intro hoka hokb), if_neg c37, if_pos (And.intro hoka hokb)]; rfl, Ext.refl _⟩
        | (have hno : ¬ (groupOk a n ∧ groupOk b n) := by
             intro h
             have h1 := h.1.1
             have h2 := h.1.2
             have h3 := h.2.2
             first | omega | (simp_all; done) | (have g15' : ¬ okN n := by simpa using g15
                                                 exact g15' h1)
           exact ⟨by unfold sharedN sharedE; rw [if_neg hno, if_neg hno]; rfl, Ext.refl _⟩)
      · refine W.wants rfl rfl rfl rfl ?_
        refine W.move rfl rfl ?_
        refine W.wants rfl rfl rfl rfl ?_
        refine W.move rfl rfl ?_
        refine W.wants rfl rfl rfl rfl ?_
        refine W.call Try.call38 rfl (Sets.RSides_ok _ _ (by omega)) rfl ?_
        rintro v26 w26 ⟨rfl, rfl⟩
        refine W.wants rfl rfl rfl rfl ?_
        refine W.gtrI rfl rfl rfl ?_
        refine W.pickF rfl rfl rfl ?_
        refine W.move rfl rfl ?_
        first | refine W.splitD (fun g29 => ?_) (fun g29 => ?_) | refine W.splitB (fun g29 => ?_) (fun g29 => ?_)
        · refine W.skips rfl rfl rfl rfl rfl rfl ?_
          refine W.skips rfl rfl rfl rfl rfl rfl ?_
          refine W.skips rfl rfl rfl rfl rfl rfl ?_
          refine W.skips rfl rfl rfl rfl rfl rfl ?_
          refine W.pickT rfl rfl rfl ?_
          refine W.nil ?_
          refine At.thenCode ?_
          refine C.condT rfl ?_
          refine C.seq ?_
          refine C.region ?_
          refine W.assign rfl rfl ?_
          refine W.assign rfl rfl ?_
          refine W.nil ?_
          refine At.thenCode ?_
          refine C.ret ?_
          refine At.thenRet ?_
          refine At.ret2 Try.results40 rfl rfl ?_
          first
          | exact ⟨by show Value.tuple #[.int .i64 ((setL a n).headD 0), .int .i64 0] = _; unfold sharedN sharedE; rw [if_pos (And.intro hoka hokb), if_pos c37, if_pos (And.intro hoka hokb)]; rfl, hX41⟩
          | exact ⟨by show Value.tuple #[.int .i64 ((pairN a b : Int) % n), .int .i64 0] = _; unfold sharedN sharedE; rw [if_pos (And.intro hoka hokb), if_neg c37, if_pos (And.intro hoka hokb)]; rfl, Ext.refl _⟩
          | (have hno : ¬ (groupOk a n ∧ groupOk b n) := by
               intro h
               have h1 := h.1.1
               have h2 := h.1.2
               have h3 := h.2.2
               first | omega | (simp_all; done) | (have g15' : ¬ okN n := by simpa using g15
                                                   exact g15' h1)
             exact ⟨by unfold sharedN sharedE; rw [if_neg hno, if_neg hno]; rfl, Ext.refl _⟩)
        · refine W.wants rfl rfl rfl rfl ?_
          refine W.move rfl rfl ?_
          refine W.wants rfl rfl rfl rfl ?_
          refine W.move rfl rfl ?_
          refine W.wants rfl rfl rfl rfl ?_
          refine W.call Try.call38 rfl (Sets.RSides_ok _ _ (by omega)) rfl ?_
          rintro v32 w32 ⟨rfl, rfl⟩
          refine W.wants rfl rfl rfl rfl ?_
          refine W.gtrI rfl rfl rfl ?_
          refine W.pickF rfl rfl rfl ?_
          refine W.nil ?_
          refine At.thenCode ?_
          first | refine C.condD rfl (fun c34 => ?_) (fun c34 => ?_) | refine C.cond rfl (fun c34 => ?_) (fun c34 => ?_)
          · refine C.seq ?_
            refine C.region ?_
            refine W.assign rfl rfl ?_
            refine W.assign rfl rfl ?_
            refine W.nil ?_
            refine At.thenCode ?_
            refine C.ret ?_
            refine At.thenRet ?_
            refine At.ret2 Try.results40 rfl rfl ?_
            first
            | exact ⟨by show Value.tuple #[.int .i64 ((setL a n).headD 0), .int .i64 0] = _; unfold sharedN sharedE; rw [if_pos (And.intro hoka hokb), if_pos c37, if_pos (And.intro hoka hokb)]; rfl, hX41⟩
            | exact ⟨by show Value.tuple #[.int .i64 ((pairN a b : Int) % n), .int .i64 0] = _; unfold sharedN sharedE; rw [if_pos (And.intro hoka hokb), if_neg c37, if_pos (And.intro hoka hokb)]; rfl, Ext.refl _⟩
            | (have hno : ¬ (groupOk a n ∧ groupOk b n) := by
                 intro h
                 have h1 := h.1.1
                 have h2 := h.1.2
                 have h3 := h.2.2
                 first | omega | (simp_all; done) | (have g15' : ¬ okN n := by simpa using g15
                                                     exact g15' h1)
               exact ⟨by unfold sharedN sharedE; rw [if_neg hno, if_neg hno]; rfl, Ext.refl _⟩)
          · have hokn : okN n := by simpa using g15
            have hoka : groupOk a n := ⟨hokn, by omega, by omega⟩
            have hokb : groupOk b n := ⟨hokn, by omega, by omega⟩
            have hn1 : 1 ≤ n ∧ n ≤ 1048576 := hokn
            have hpl := pair_le a b
            refine C.skip ?_
            refine At.thenCode ?_
            refine C.seq ?_
            refine C.seq ?_
            refine C.region ?_
            refine W.move rfl rfl ?_
            refine W.move rfl rfl ?_
            refine W.eqlI rfl rfl rfl ?_
            refine W.nil ?_
            refine At.thenCode ?_
            first | refine C.condD rfl (fun c37 => ?_) (fun c37 => ?_) | refine C.cond rfl (fun c37 => ?_) (fun c37 => ?_)
            · have hEl : setE a n = 0 := by unfold setE; rw [if_pos hoka]
              have hRl : setR a n = setL a n := by unfold setR; rw [if_pos hoka]
              have hll := setL_length hoka
              have hl1 := (sides_spec hoka.1).1
              refine C.seq ?_
              refine C.region ?_
              refine W.move rfl rfl ?_
              refine W.move rfl rfl ?_
              refine W.call Try.call35 rfl (Sets.RSet_ok _ _ _ (by omega) (by omega)) rfl ?_
              rintro v41 w41 ⟨⟨ao41, c41, rfl, hS41, hfS41⟩, hX41⟩
              refine W.move rfl rfl ?_
              refine W.extract rfl rfl rfl ?_
              refine W.extract rfl rfl rfl ?_
              refine W.assign rfl rfl ?_
              refine W.assign rfl rfl ?_
              refine W.nil ?_
              refine At.thenCode ?_
              refine C.seq ?_
              refine C.region ?_
              refine W.move rfl rfl ?_
              refine W.indexS XI Try.underlying48 rfl hS41 rfl (by rw [hRl, hll]; omega) rfl ?_
              intro ad _ _ hc32
              refine W.load (v := .int .i64 ((setL a n).headD 0)) rfl Try.underlying3 rfl (by
                have h0 := hc32 0 (.int .i64 ((setL a n).headD 0)) (by
                  rw [hRl]
                  cases hsl : setL a n with
                  | nil => rw [hsl] at hll; simp at hll; omega
                  | cons x r => rfl)
                rwa [add_zero'] at h0) rfl ?_
              refine W.assign rfl rfl ?_
              refine W.assign rfl rfl ?_
              refine W.nil ?_
              refine At.thenCode ?_
              refine C.ret ?_
              refine At.thenRet ?_
              refine At.ret2 Try.results40 rfl rfl ?_
              first
              | exact ⟨by show Value.tuple #[.int .i64 ((setL a n).headD 0), .int .i64 0] = _; unfold sharedN sharedE; rw [if_pos (And.intro hoka hokb), if_pos c37, if_pos (And.intro hoka hokb)]; rfl, hX41⟩
              | exact ⟨by show Value.tuple #[.int .i64 ((pairN a b : Int) % n), .int .i64 0] = _; unfold sharedN sharedE; rw [if_pos (And.intro hoka hokb), if_neg c37, if_pos (And.intro hoka hokb)]; rfl, Ext.refl _⟩
              | (have hno : ¬ (groupOk a n ∧ groupOk b n) := by
                   intro h
                   have h1 := h.1.1
                   have h2 := h.1.2
                   have h3 := h.2.2
                   first | omega | (simp_all; done) | (have g15' : ¬ okN n := by simpa using g15
                                                       exact g15' h1)
                 exact ⟨by unfold sharedN sharedE; rw [if_neg hno, if_neg hno]; rfl, Ext.refl _⟩)
            · refine C.skip ?_
              refine At.thenCode ?_
              refine C.seq ?_
              refine C.region ?_
              refine W.move rfl rfl ?_
              refine W.move rfl rfl ?_
              refine W.call Try.call54 rfl (Sets.RPair_ok _ _ _ (by omega) (by omega)) rfl ?_
              rintro v50 w50 ⟨rfl, rfl⟩
              refine W.move rfl rfl ?_
              refine W.extract rfl rfl rfl ?_
              refine W.extract rfl rfl rfl ?_
              refine W.assign rfl rfl ?_
              refine W.assign rfl rfl ?_
              refine W.nil ?_
              refine At.thenCode ?_
              refine C.seq ?_
              refine C.region ?_
              refine W.move rfl rfl ?_
              refine W.move rfl rfl ?_
              first | refine W.remI rfl rfl (by omega) rfl ?_ | refine W.remW rfl rfl (by omega) rfl ?_
              refine W.assign rfl rfl ?_
              refine W.assign rfl rfl ?_
              refine W.nil ?_
              refine At.thenCode ?_
              refine C.ret ?_
              refine At.ret2 Try.results40 rfl rfl ?_
              first
              | exact ⟨by show Value.tuple #[.int .i64 ((setL a n).headD 0), .int .i64 0] = _; unfold sharedN sharedE; rw [if_pos (And.intro hoka hokb), if_pos c37, if_pos (And.intro hoka hokb)]; rfl, hX41⟩
              | exact ⟨by show Value.tuple #[.int .i64 ((pairN a b : Int) % n), .int .i64 0] = _; unfold sharedN sharedE; rw [if_pos (And.intro hoka hokb), if_neg c37, if_pos (And.intro hoka hokb)]; rfl, Ext.refl _⟩
              | (have hno : ¬ (groupOk a n ∧ groupOk b n) := by
                   intro h
                   have h1 := h.1.1
                   have h2 := h.1.2
                   have h3 := h.2.2
                   first | omega | (simp_all; done) | (have g15' : ¬ okN n := by simpa using g15
                                                       exact g15' h1)
                 exact ⟨by unfold sharedN sharedE; rw [if_neg hno, if_neg hno]; rfl, Ext.refl _⟩)
/-- The group of a name. -/
def nameV (name : List UInt8) : List UInt8 := shaV (partsV [[103, 114, 111, 117, 112], name])
def groupN (name : List UInt8) (n : Int) : Nat := if okN n then getV (nameV name) 0 8 % (sidesN n + 1) else 0
def groupE (n : Int) : Nat := if okN n then 0 else 1
theorem bss2 {w : World} {q : Addr} {a1 a2 : Option Addr} {c1 c2 : Nat} {x1 x2 : List UInt8} (h : Sl w (some q) 2 2 1 [.slice a1 x1.length c1, .slice a2 x2.length c2]) (h1 : Bs w a1 c1 x1) (h2 : Bs w a2 c2 x2) : Bss w (some q) 2 [x1, x2] :=
  ⟨_, h, fun i hi => by
    rcases (show i = 0 ∨ i = 1 by simp at hi; omega) with rfl | rfl
    · exact ⟨_, rfl, _, _, rfl, h1⟩
    · exact ⟨_, rfl, _, _, rfl, h2⟩⟩
theorem parts2_length (a b : List UInt8) : (partsV [a, b]).length = a.length + b.length + 16 := by
  simp only [partsV, List.length_append, be64_length, List.length_nil]
  omega
theorem ow_bk {w : World} {base e n : Nat} {g c : Nat} {cs : List Value} (ho : w.ownsRow base e 1 (.slice (some ⟨g, 0, none⟩) n c) n cs) : ∃ cells, Bk w g cells := by
  rcases ho.2 with ⟨h, _⟩ | ⟨q, cap, cur, hv, _, hq, _⟩
  · cases h
  · injection hv with h1 _ _
    injection h1 with h1
    injection h1 with h1
    subst h1
    exact ⟨cur.toList, _, by simpa using hq⟩
theorem Group_ok (name : List UInt8) (n : Int) (w : World) (hs : name.length = 32) (hn : -9223372036854775808 ≤ n ∧ n ≤ 9223372036854775807) : Ct Try.prog 41 #[keyV name, .int .i64 n] w (fun v w' => v = .tuple #[.int .i64 (groupN name n : Int), .int .i64 (groupE n : Int)] ∧ Ext w w') := by
  refine Ct.enter [(0, keyV name), (1, .int .i64 n)] Try.func41 rfl rfl rfl rfl ?_
  have hL := sidesN_le n
  obtain ⟨S, hS⟩ : ∃ S, S = nameV name := ⟨_, rfl⟩
  have hSl : S.length = 32 := by rw [hS]; exact shaV_length _
  refine C.seq ?_
  refine C.region ?_
  refine W.box (name.map byteV) rfl rfl rfl ?_
  intro g2 w2 hg2 hX2 hB2
  refine W.assign rfl rfl ?_
  refine W.assign rfl rfl ?_
  refine W.nil ?_
  refine At.thenCode ?_
  refine C.seq ?_
  refine C.seq ?_
  refine C.region ?_
  refine W.move rfl rfl ?_
  refine W.call Try.call55 rfl (Sets.right_ok _ _) rfl ?_
  rintro v10 w10 ⟨rfl, rfl⟩
  first | refine W.notD rfl rfl ?_ | refine W.notB rfl rfl ?_
  refine W.nil ?_
  refine At.thenCode ?_
  first | refine C.condD rfl (fun c11 => ?_) (fun c11 => ?_) | refine C.cond rfl (fun c11 => ?_) (fun c11 => ?_)
  · refine C.seq ?_
    refine C.region ?_
    refine W.assign rfl rfl ?_
    refine W.assign rfl rfl ?_
    refine W.nil ?_
    refine At.thenCode ?_
    refine C.ret ?_
    refine At.thenRet ?_
    refine At.ret2 Try.results41 rfl rfl ?_
    first
    | (have hno : ¬ okN n := by simpa using c11
       exact ⟨by unfold groupN groupE; rw [if_neg hno, if_neg hno]; rfl, hX2⟩)
    | exact ⟨by unfold groupN groupE; rw [if_pos hok, if_pos hok, ← hS]; rfl, hX7⟩
  · have hok : okN n := by simpa using c11
    refine C.skip ?_
    refine At.thenCode ?_
    refine C.seq ?_
    refine C.region ?_
    refine W.litB [103, 114, 111, 117, 112] E8 Try.underlying40 rfl rfl rfl rfl rfl ?_
    intro g12 w12 hg12 hX12 ho12 hb12
    obtain ⟨cs12, hB12⟩ := ow_bk ho12
    refine W.constB Try.underlying40 Try.underlying5 rfl hB12 hb12 rfl ?_
    intro w13 hc13 hb13
    have hX13 : Ext w2 w13 := hX12.news hc13 (fun k hk => Or.inr (by omega))
    have hl2 := hB2.lt
    have hB2a := hB2.ext hX13
    refine W.sliceA X8 Try.underlying23 rfl rfl ?_
    have hSn : Bs w13 (some ⟨g2, 0, none⟩) 32 name := by show Sl _ _ _ _ _ _; rw [hs]; exact hB2a.sl 1 (by rw [List.length_map, hs]) (by omega)
    refine W.litV [.slice (some ⟨g12, 0, none⟩) 5 5, .slice (some ⟨g2, 0, none⟩) 32 32] EB Try.underlying42 rfl rfl (fun u hu => by simp at hu; rcases hu with rfl | rfl <;> rfl) rfl rfl rfl ?_
    intro g15 w15 hg15 hX15 ho15 hs15
    have hs15 : Sl w15 (some ⟨g15, 0, none⟩) 2 2 1 [.slice (some ⟨g12, 0, none⟩) ([103, 114, 111, 117, 112] : List UInt8).length 5, .slice (some ⟨g2, 0, none⟩) 32 32] := hs15
    rw [← hs] at hs15
    have hB15 := bss2 hs15 (hb13.ext hX15) (by rw [hs]; exact hSn.ext hX15)
    refine W.call Try.call43 rfl (RSha.Parts_ok _ _ [[103, 114, 111, 117, 112], name] _ hB15 (by simp) (by rw [parts2_length, hs]; decide)) rfl ?_
    rintro v16 w16 ⟨rfl, hX16⟩
    refine W.eqv (v' := keyV S) (by rw [hS]; rfl) ?_
    refine W.alloc (z := .agg (List.replicate 32 (byteV 0)).toArray) (List.replicate 32 (byteV 0)) (by kernel_rfl) rfl rfl ?_
    intro g6 w6 hg6 hX6 hB6
    refine W.storeA (S.map byteV) rfl rfl hB6 (by rw [List.length_map, hSl]; rfl) (by rw [List.length_map, hSl]; kernel_rfl) (bytes_oneCell _) ?_
    intro w7 hc7 hB7
    have hXa : Ext w w16 := ((hX2.ext hX13).ext hX15).ext hX16
    have hX7 : Ext w w7 := (hXa.ext hX6).news hc7 (fun k hk => Or.inr (by have := hXa.size; omega))
    refine W.nil ?_
    refine At.thenCode ?_
    refine C.seq ?_
    refine C.region ?_
    refine W.sliceA X8 Try.underlying23 rfl rfl ?_
    have hS6 : Bs w7 (some ⟨g6, 0, none⟩) 32 S := by show Sl _ _ _ _ _ _; rw [hSl]; exact hB7.sl 1 (by rw [List.length_map, hSl]) (by omega)
    have hgt := Words.Get64_ok (some ⟨g6, 0, none⟩) 32 S 0 w7 hS6 (by omega) (by decide)
    rw [hSl] at hgt
    refine W.call Try.call45 rfl hgt rfl ?_
    rintro v19 w19 ⟨rfl, rfl⟩
    have hgl := getV_lt S 0 8
    refine W.move rfl rfl ?_
    refine W.extract rfl rfl rfl ?_
    refine W.extract rfl rfl rfl ?_
    refine W.assign rfl rfl ?_
    refine W.assign rfl rfl ?_
    refine W.nil ?_
    refine At.thenCode ?_
    refine C.seq ?_
    refine C.region ?_
    refine W.move rfl rfl ?_
    refine W.move rfl rfl ?_
    refine W.call Try.call37 rfl (Sets.Sides_ok _ _ (by omega)) rfl ?_
    rintro v24 w24 ⟨rfl, rfl⟩
    first | refine W.addI rfl rfl (by omega) rfl ?_ | refine W.addW rfl rfl rfl ?_
    first | refine W.convIN (M := 18446744073709551616) rfl Try.underlying3 Try.underlying30 rfl rfl (by omega) rfl ?_ | refine W.convIU (M := 18446744073709551616) rfl Try.underlying3 Try.underlying30 rfl rfl rfl ?_
    refine W.eqv (v' := .int .u64 ((sidesN n + 1 : Nat) : Int)) (iV (by omega)) ?_
    refine W.remU rfl rfl (by omega) rfl ?_
    have hml := Nat.mod_lt (getV S 0 8) (show 0 < sidesN n + 1 by omega)
    first | refine W.convI rfl Try.underlying30 Try.underlying3 (by omega) rfl ?_ | refine W.conv rfl Try.underlying30 Try.underlying3 rfl ?_
    refine W.assign rfl rfl ?_
    refine W.assign rfl rfl ?_
    refine W.nil ?_
    refine At.thenCode ?_
    refine C.ret ?_
    refine At.ret2 Try.results41 rfl rfl ?_
    first
    | (have hno : ¬ okN n := by simpa using c11
       exact ⟨by unfold groupN groupE; rw [if_neg hno, if_neg hno]; rfl, hX2⟩)
    | exact ⟨by unfold groupN groupE; rw [if_pos hok, if_pos hok, ← hS]; rfl, hX7⟩
theorem RGroup_ok (name : List UInt8) (n : Int) (w : World) (hs : name.length = 32) (hn : -9223372036854775808 ≤ n ∧ n ≤ 9223372036854775807) : Ct Try.prog 42 #[keyV name, .int .i64 n] w (fun v w' => v = .tuple #[.int .i64 (groupN name n : Int), .int .i64 (groupE n : Int)] ∧ Ext w w') := by
  refine Ct.enter [(0, keyV name), (1, .int .i64 n)] Try.func42 rfl rfl rfl rfl ?_
  have hL := sidesN_le n
  obtain ⟨S, hS⟩ : ∃ S, S = nameV name := ⟨_, rfl⟩
  have hSl : S.length = 32 := by rw [hS]; exact shaV_length _
  refine C.seq ?_
  refine C.region ?_
  refine W.box (name.map byteV) rfl rfl rfl ?_
  intro g2 w2 hg2 hX2 hB2
  refine W.assign rfl rfl ?_
  refine W.assign rfl rfl ?_
  refine W.nil ?_
  refine At.thenCode ?_
  refine C.seq ?_
  refine C.seq ?_
  refine C.region ?_
  refine W.move rfl rfl ?_
  refine W.call Try.call53 rfl (Sets.chainsRight_ok _ _) rfl ?_
  rintro v10 w10 ⟨rfl, rfl⟩
  first | refine W.notD rfl rfl ?_ | refine W.notB rfl rfl ?_
  refine W.nil ?_
  refine At.thenCode ?_
  first | refine C.condD rfl (fun c11 => ?_) (fun c11 => ?_) | refine C.cond rfl (fun c11 => ?_) (fun c11 => ?_)
  · refine C.seq ?_
    refine C.region ?_
    refine W.assign rfl rfl ?_
    refine W.assign rfl rfl ?_
    refine W.nil ?_
    refine At.thenCode ?_
    refine C.ret ?_
    refine At.thenRet ?_
    refine At.ret2 Try.results42 rfl rfl ?_
    first
    | (have hno : ¬ okN n := by simpa using c11
       exact ⟨by unfold groupN groupE; rw [if_neg hno, if_neg hno]; rfl, hX2⟩)
    | exact ⟨by unfold groupN groupE; rw [if_pos hok, if_pos hok, ← hS]; rfl, hX7⟩
  · have hok : okN n := by simpa using c11
    refine C.skip ?_
    refine At.thenCode ?_
    refine C.seq ?_
    refine C.region ?_
    refine W.litB [103, 114, 111, 117, 112] E8 Try.underlying40 rfl rfl rfl rfl rfl ?_
    intro g12 w12 hg12 hX12 ho12 hb12
    obtain ⟨cs12, hB12⟩ := ow_bk ho12
    refine W.constB Try.underlying40 Try.underlying5 rfl hB12 hb12 rfl ?_
    intro w13 hc13 hb13
    have hX13 : Ext w2 w13 := hX12.news hc13 (fun k hk => Or.inr (by omega))
    have hl2 := hB2.lt
    have hB2a := hB2.ext hX13
    refine W.sliceA X8 Try.underlying23 rfl rfl ?_
    have hSn : Bs w13 (some ⟨g2, 0, none⟩) 32 name := by show Sl _ _ _ _ _ _; rw [hs]; exact hB2a.sl 1 (by rw [List.length_map, hs]) (by omega)
    refine W.appendB (ys := name) E8 Try.underlying40 rfl (look_eq rfl (by rw [hs])) (Ow.nil _ w13.heap.size 5) hSn (by simp; omega) (Nat.le_refl _) rfl ?_
    rw [List.nil_append]
    intro v15 w15 ho15 hg15 _
    have hX15 : Ext w13 w15 := (Chg.of_grown hg15).mono fun k hk => by cases hk
    obtain ⟨q15, c15, rfl, hS15, _⟩ := ownsRow_form ho15
    refine W.litV [.slice (some ⟨g12, 0, none⟩) 5 5, .slice q15 name.length c15] EB Try.underlying42 rfl rfl (fun u hu => by simp at hu; rcases hu with rfl | rfl <;> rfl) rfl rfl rfl ?_
    intro g16 w16 hg16 hX16 ho16 hs16
    have hs16 : Sl w16 (some ⟨g16, 0, none⟩) 2 2 1 [.slice (some ⟨g12, 0, none⟩) ([103, 114, 111, 117, 112] : List UInt8).length 5, .slice q15 name.length c15] := hs16
    have hB16 := bss2 hs16 ((hb13.ext hX15).ext hX16) (hS15.ext hX16)
    refine W.call Try.call21 rfl (RSha.RParts_ok _ _ [[103, 114, 111, 117, 112], name] _ hB16 (by simp) (by rw [parts2_length, hs]; decide)) rfl ?_
    rintro v17 w17 ⟨rfl, hX17⟩
    refine W.eqv (v' := keyV S) (by rw [hS]; rfl) ?_
    refine W.alloc (z := .agg (List.replicate 32 (byteV 0)).toArray) (List.replicate 32 (byteV 0)) (by kernel_rfl) rfl rfl ?_
    intro g6 w6 hg6 hX6 hB6
    refine W.storeA (S.map byteV) rfl rfl hB6 (by rw [List.length_map, hSl]; rfl) (by rw [List.length_map, hSl]; kernel_rfl) (bytes_oneCell _) ?_
    intro w7 hc7 hB7
    have hXa : Ext w w17 := (((hX2.ext hX13).ext hX15).ext hX16).ext hX17
    have hX7 : Ext w w7 := (hXa.ext hX6).news hc7 (fun k hk => Or.inr (by have := hXa.size; omega))
    refine W.nil ?_
    refine At.thenCode ?_
    refine C.seq ?_
    refine C.region ?_
    refine W.sliceA X8 Try.underlying23 rfl rfl ?_
    have hS6 : Bs w7 (some ⟨g6, 0, none⟩) 32 S := by show Sl _ _ _ _ _ _; rw [hSl]; exact hB7.sl 1 (by rw [List.length_map, hSl]) (by omega)
    have hgt := Words.RGet64_ok (some ⟨g6, 0, none⟩) 32 S 0 w7 hS6 (by omega) (by decide)
    rw [hSl] at hgt
    refine W.call Try.call23 rfl hgt rfl ?_
    rintro v20 w20 ⟨rfl, rfl⟩
    have hgl := getV_lt S 0 8
    refine W.move rfl rfl ?_
    refine W.extract rfl rfl rfl ?_
    refine W.extract rfl rfl rfl ?_
    refine W.assign rfl rfl ?_
    refine W.assign rfl rfl ?_
    refine W.nil ?_
    refine At.thenCode ?_
    refine C.seq ?_
    refine C.region ?_
    refine W.move rfl rfl ?_
    refine W.move rfl rfl ?_
    refine W.call Try.call38 rfl (Sets.RSides_ok _ _ (by omega)) rfl ?_
    rintro v25 w25 ⟨rfl, rfl⟩
    first | refine W.addI rfl rfl (by omega) rfl ?_ | refine W.addW rfl rfl rfl ?_
    first | refine W.convIN (M := 18446744073709551616) rfl Try.underlying3 Try.underlying30 rfl rfl (by omega) rfl ?_ | refine W.convIU (M := 18446744073709551616) rfl Try.underlying3 Try.underlying30 rfl rfl rfl ?_
    refine W.eqv (v' := .int .u64 ((sidesN n + 1 : Nat) : Int)) (iV (by omega)) ?_
    refine W.remU rfl rfl (by omega) rfl ?_
    have hml := Nat.mod_lt (getV S 0 8) (show 0 < sidesN n + 1 by omega)
    first | refine W.convI rfl Try.underlying30 Try.underlying3 (by omega) rfl ?_ | refine W.conv rfl Try.underlying30 Try.underlying3 rfl ?_
    refine W.assign rfl rfl ?_
    refine W.assign rfl rfl ?_
    refine W.nil ?_
    refine At.thenCode ?_
    refine C.ret ?_
    refine At.ret2 Try.results42 rfl rfl ?_
    first
    | (have hno : ¬ okN n := by simpa using c11
       exact ⟨by unfold groupN groupE; rw [if_neg hno, if_neg hno]; rfl, hX2⟩)
    | exact ⟨by unfold groupN groupE; rw [if_pos hok, if_pos hok, ← hS]; rfl, hX7⟩
end Go.Proofs.Ytomfnficblnngaa.Sets
