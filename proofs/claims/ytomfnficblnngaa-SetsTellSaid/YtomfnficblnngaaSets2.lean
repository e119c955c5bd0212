/- Sets of chains: the program's and the reference's. -/
import Derived.Test.YtomfnficblnngaaSets
namespace Go.Proofs.Ytomfnficblnngaa.Sets
open Go Go.RowKit Go.Proofs.Ytomfnficblnngaa.KW Go.Proofs.Ytomfnficblnngaa.Words
set_option linter.unusedVariables false
set_option linter.unusedSimpArgs false
set_option maxRecDepth 100000

abbrev Zs (w : World) (ao : Option Addr) (c : Nat) (xs : List Int) : Prop := Sl w ao xs.length c 1 (xs.map (.int .i64))
theorem z_oneCell (xs : List Int) : ∀ u ∈ (xs.map (.int .i64) : List Value), u.oneCell' = true := by
  intro u hu
  obtain ⟨_, _, rfl⟩ := List.mem_map.1 hu
  rfl
theorem get_z {xs : List Int} {i : Nat} (h : i < xs.length) : (xs.map (.int .i64) : List Value)[i]? = some (.int .i64 (xs[i]'h)) := by
  rw [List.getElem?_map, List.getElem?_eq_getElem h]; rfl
def groupOk (g n : Int) : Prop := okN n ∧ 0 ≤ g ∧ g ≤ (sidesN n : Int)
instance (g n : Int) : Decidable (groupOk g n) := by unfold groupOk; infer_instance
def setP (g n : Int) : Nat → List Int
  | 0 => []
  | i + 1 => if (i : Int) = g then setP g n i else setP g n i ++ [(pairN g i : Int) % n]
def setL (g n : Int) : List Int := setP g n (sidesN n + 1)
theorem setP_length {g n : Int} (h : 0 ≤ g) : ∀ i, (setP g n i).length = if g < (i : Int) then i - 1 else i := by
  intro i
  induction i with
  | zero => unfold setP; rw [if_neg (by omega)]; rfl
  | succ i ih =>
    unfold setP
    split
    · rw [ih, if_neg (by omega), if_pos (by omega)]; omega
    · rw [List.length_append, ih, List.length_singleton]
      split
      · rw [if_pos (by omega)]; omega
      · rw [if_neg (by omega)]
theorem setL_length {g n : Int} (h : groupOk g n) : (setL g n).length = sidesN n := by
  unfold setL; rw [setP_length h.2.1, if_pos (by have := h.2.2; omega)]; omega
theorem setP_mem {g n : Int} {o : Nat} (hg : (o : Int) ≠ g) : ∀ i, o < i → (pairN g o : Int) % n ∈ setP g n i := by
  intro i
  induction i with
  | zero => intro h; omega
  | succ i ih =>
    intro h
    unfold setP
    by_cases e : o = i
    · subst e; rw [if_neg hg]; simp
    · have := ih (by omega)
      split
      · exact this
      · exact List.mem_append_left _ this
theorem setL_mem {g n : Int} {o : Nat} (hg : (o : Int) ≠ g) (ho : o ≤ sidesN n) : (pairN g o : Int) % n ∈ setL g n := setP_mem hg _ (by omega)
theorem setP_range {g n : Int} (hn : 1 ≤ n) : ∀ i, ∀ x ∈ setP g n i, 0 ≤ x ∧ x < n := by
  intro i
  induction i with
  | zero => intro x hx; cases hx
  | succ i ih =>
    intro x hx
    unfold setP at hx
    split at hx
    · exact ih x hx
    · rcases List.mem_append.1 hx with h | h
      · exact ih x h
      · obtain rfl := List.mem_singleton.1 h
        exact ⟨Int.emod_nonneg _ (by omega), Int.emod_lt_of_pos _ (by omega)⟩
theorem setP_max (g n : Int) : ∀ i, (setP g n i).length ≤ i := by
  intro i
  induction i with
  | zero => exact Nat.le_refl _
  | succ i ih => unfold setP; split
                 · omega
                 · rw [List.length_append, List.length_singleton]; omega
def setR (g n : Int) : List Int := if groupOk g n then setL g n else []
def setE (g n : Int) : Nat := if groupOk g n then 0 else 1
def sharedN (a b n : Int) : Int := if groupOk a n ∧ groupOk b n then (if a = b then (setL a n).headD 0 else (pairN a b : Int) % n) else 0
def sharedE (a b n : Int) : Nat := if groupOk a n ∧ groupOk b n then 0 else 1
theorem group_le {g n : Int} (h : groupOk g n) : g ≤ 1449 := by have := sidesN_le n; have := h.2.2; omega
theorem pairE_of {g n : Int} {o : Nat} (h : groupOk g n) (ho : o ≤ 1450) : (pairE g o : Int) = 0 ↔ (o : Int) ≠ g := by
  have := group_le h
  have := h.2.1
  unfold pairE
  constructor
  · intro h1 e
    rw [if_pos (by unfold pairBad; omega)] at h1
    omega
  · intro e
    rw [if_neg (by unfold pairBad; omega)]
    rfl
theorem group_ok (g n : Int) (w : World) (hn : -9223372036854775808 ≤ n ∧ n ≤ 9223372036854775807) : Ct Try.prog 51 #[.int .i64 g, .int .i64 n] w (fun v w' => v = .bool (decide (groupOk g n)) ∧ w = w') := by
  refine Ct.enter [(0, .int .i64 g), (1, .int .i64 n)] Try.func51 rfl rfl rfl rfl ?_
  refine C.seq ?_
  refine C.region ?_
  refine W.assign rfl rfl ?_
  refine W.nil ?_
  refine At.thenCode ?_
  refine C.seq ?_
  refine C.region ?_
  refine W.move rfl rfl ?_
  refine W.call Try.call55 rfl (Sets.right_ok _ _) rfl ?_
  rintro v6 w6 ⟨rfl, rfl⟩
  refine W.move rfl rfl ?_
  first | refine W.splitD (fun g7 => ?_) (fun g7 => ?_) | refine W.splitB (fun g7 => ?_) (fun g7 => ?_)
  · refine W.wants rfl rfl rfl rfl ?_
    refine W.move rfl rfl ?_
    refine W.wants rfl rfl rfl rfl ?_
    refine W.geqI rfl rfl rfl ?_
    refine W.pickT rfl rfl rfl ?_
    refine W.move rfl rfl ?_
    first | refine W.splitD (fun g11 => ?_) (fun g11 => ?_) | refine W.splitB (fun g11 => ?_) (fun g11 => ?_)
    · refine W.wants rfl rfl rfl rfl ?_
      refine W.move rfl rfl ?_
      refine W.wants rfl rfl rfl rfl ?_
      refine W.move rfl rfl ?_
      refine W.wants rfl rfl rfl rfl ?_
      refine W.call Try.call37 rfl (Sets.Sides_ok _ _ (by omega)) rfl ?_
      rintro v14 w14 ⟨rfl, rfl⟩
      refine W.wants rfl rfl rfl rfl ?_
      refine W.leqI rfl rfl rfl ?_
      refine W.pickT rfl rfl rfl ?_
      refine W.assign rfl rfl ?_
      refine W.nil ?_
      refine At.thenCode ?_
      refine C.ret ?_
      refine At.ret1 Try.results51 rfl ?_
      refine ⟨?_, rfl⟩
      first | exact decE ⟨fun h => ⟨g7, g11, h⟩, fun h => h.2.2⟩ | exact decF (fun h => g11 h.2.1) | exact decF (fun h => g7 h.1)
    · refine W.skips rfl rfl rfl rfl rfl rfl ?_
      refine W.skips rfl rfl rfl rfl rfl rfl ?_
      refine W.skips rfl rfl rfl rfl rfl rfl ?_
      refine W.skips rfl rfl rfl rfl rfl rfl ?_
      refine W.pickF rfl rfl rfl ?_
      refine W.assign rfl rfl ?_
      refine W.nil ?_
      refine At.thenCode ?_
      refine C.ret ?_
      refine At.ret1 Try.results51 rfl ?_
      refine ⟨?_, rfl⟩
      first | exact decE ⟨fun h => ⟨g7, g11, h⟩, fun h => h.2.2⟩ | exact decF (fun h => g11 h.2.1) | exact decF (fun h => g7 h.1)
  · refine W.skips rfl rfl rfl rfl rfl rfl ?_
    refine W.skips rfl rfl rfl rfl rfl rfl ?_
    refine W.pickF rfl rfl rfl ?_
    refine W.move rfl rfl ?_
    refine W.skips rfl rfl rfl rfl rfl rfl ?_
    refine W.skips rfl rfl rfl rfl rfl rfl ?_
    refine W.skips rfl rfl rfl rfl rfl rfl ?_
    refine W.skips rfl rfl rfl rfl rfl rfl ?_
    refine W.pickF rfl rfl rfl ?_
    refine W.assign rfl rfl ?_
    refine W.nil ?_
    refine At.thenCode ?_
    refine C.ret ?_
    refine At.ret1 Try.results51 rfl ?_
    refine ⟨?_, rfl⟩
    first | exact decE ⟨fun h => ⟨g7, g11, h⟩, fun h => h.2.2⟩ | exact decF (fun h => g11 h.2.1) | exact decF (fun h => g7 h.1)
theorem Set_ok (g n : Int) (w : World) (hg : -9223372036854775808 ≤ g ∧ g ≤ 9223372036854775807) (hn : -9223372036854775808 ≤ n ∧ n ≤ 9223372036854775807) : Ct Try.prog 34 #[.int .i64 g, .int .i64 n] w (fun v w' => (∃ ao c, v = .tuple #[.slice ao (setR g n).length c, .int .i64 (setE g n : Int)] ∧ Zs w' ao c (setR g n) ∧ ∀ ad, ao = some ad → w.heap.size ≤ ad.block) ∧ Ext w w') := by
  refine Ct.enter [(0, .int .i64 g), (1, .int .i64 n)] Try.func34 rfl rfl rfl rfl ?_
  have hL := sidesN_le n
  refine C.seq ?_
  refine C.region ?_
  refine W.assign rfl rfl ?_
  refine W.assign rfl rfl ?_
  refine W.nil ?_
  refine At.thenCode ?_
  refine C.seq ?_
  refine C.seq ?_
  refine C.region ?_
  refine W.move rfl rfl ?_
  refine W.move rfl rfl ?_
  refine W.call Try.call51 rfl (Sets.group_ok _ _ _ (by omega)) rfl ?_
  rintro v12 w12 ⟨rfl, rfl⟩
  first | refine W.notD rfl rfl ?_ | refine W.notB rfl rfl ?_
  refine W.nil ?_
  refine At.thenCode ?_
  first | refine C.condD rfl (fun c13 => ?_) (fun c13 => ?_) | refine C.cond rfl (fun c13 => ?_) (fun c13 => ?_)
  · refine C.seq ?_
    refine C.region ?_
    refine W.assign rfl rfl ?_
    refine W.assign rfl rfl ?_
    refine W.nil ?_
    refine At.thenCode ?_
    refine C.ret ?_
    refine At.thenRet ?_
    refine At.ret2 Try.results34 rfl rfl ?_
    have hno : ¬ groupOk g n := by simpa using c13
    exact ⟨⟨none, 0, by unfold setR setE; rw [if_neg hno, if_neg hno]; rfl, by unfold setR; rw [if_neg hno]; exact Sl.none _ 1, fun ad h => by cases h⟩, Ext.refl _⟩
  · have hok : groupOk g n := by simpa using c13
    have hn1 : 1 ≤ n ∧ n ≤ 1048576 := hok.1
    have hg0 := hok.2
    refine C.skip ?_
    refine At.thenCode ?_
    refine C.seq ?_
    refine C.region ?_
    refine W.assign rfl rfl ?_
    refine W.nil ?_
    refine At.thenCode ?_
    refine C.seq ?_
    refine C.seq ?_
    refine C.region ?_
    refine W.move rfl rfl ?_
    refine W.call Try.call37 rfl (Sets.Sides_ok _ _ (by omega)) rfl ?_
    rintro v15 w15 ⟨rfl, rfl⟩
    first | refine W.addI rfl rfl (by omega) rfl ?_ | refine W.addW rfl rfl rfl ?_
    refine W.move rfl rfl ?_
    refine W.nil ?_
    refine At.thenCode ?_
    refine C.block ?_
    refine C.loop (X := Nat × Value) (fun x_ => [(0, .int .i64 g), (1, .int .i64 n), (6, x_.2), (16, .int .i64 ((sidesN n : Int) + 1)), (17, .int .i64 (x_.1 : Int))]) (fun x_ w1 => Ext w w1 ∧ x_.1 ≤ sidesN n + 1 ∧ World.ownsRow w1 w.heap.size 3 1 x_.2 (setP g n x_.1).length ((setP g n x_.1).map (.int .i64))) (fun x_ => sidesN n + 1 - x_.1) (0, .slice none 0 0) (Sub.cons (rfl) (Sub.cons (rfl) (Sub.cons (rfl) (Sub.cons (rfl) (Sub.cons (rfl) (Sub.nil)))))) ?start1 ?_
    case start1 =>
      show Ext w _ ∧ (0) ≤ sidesN n + 1 ∧ World.ownsRow _ w.heap.size 3 1 (.slice none 0 0) (setP g n (0)).length ((setP g n (0)).map (.int .i64))
      exact ⟨Ext.refl _, by omega, World.ownsRow_nil _ _ _ _⟩
    rintro ⟨i, v⟩ w1 hI_
    replace hI_ : Ext w w1 ∧ i ≤ sidesN n + 1 ∧ World.ownsRow w1 w.heap.size 3 1 v (setP g n i).length ((setP g n i).map (.int .i64)) := hI_
    obtain ⟨hX1, hi, hO1⟩ := hI_
    refine C.weaken (l' := [(0, .int .i64 g), (1, .int .i64 n), (6, v), (16, .int .i64 ((sidesN n : Int) + 1)), (17, .int .i64 (i : Int))]) (Sub.cons (rfl) (Sub.cons (rfl) (Sub.cons (rfl) (Sub.cons (rfl) (Sub.cons (rfl) (Sub.nil)))))) ?_
    refine C.seq ?_
    refine C.region ?_
    refine W.lssI rfl rfl rfl ?_
    refine W.nil ?_
    refine At.thenCode ?_
    refine C.seq ?_
    first | refine C.condD rfl (fun c18 => ?_) (fun c18 => ?_) | refine C.cond rfl (fun c18 => ?_) (fun c18 => ?_)
    · have hpe := pairE_of hok (o := i) (by omega)
      have hpl := pair_le g i
      have hpm := setP_max g n i
      refine C.skip ?_
      refine At.thenCode ?_
      refine C.seq ?_
      refine C.block ?_
      refine C.seq ?_
      refine C.region ?_
      refine W.move rfl rfl ?_
      refine W.assign rfl rfl ?_
      refine W.nil ?_
      refine At.thenCode ?_
      refine C.seq ?_
      refine C.region ?_
      refine W.move rfl rfl ?_
      refine W.move rfl rfl ?_
      refine W.call Try.call52 rfl (Sets.Pair_ok _ _ _ (by omega) (by omega)) rfl ?_
      rintro v23 w23 ⟨rfl, rfl⟩
      refine W.move rfl rfl ?_
      refine W.extract rfl rfl rfl ?_
      refine W.extract rfl rfl rfl ?_
      refine W.assign rfl rfl ?_
      refine W.assign rfl rfl ?_
      refine W.nil ?_
      refine At.thenCode ?_
      refine C.seq ?_
      refine C.region ?_
      refine W.move rfl rfl ?_
      refine W.eqlI rfl rfl rfl ?_
      refine W.nil ?_
      refine At.thenCode ?_
      first | refine C.condD rfl (fun c27 => ?_) (fun c27 => ?_) | refine C.cond rfl (fun c27 => ?_) (fun c27 => ?_)
      · refine C.region ?_
        refine W.move rfl rfl ?_
        refine W.move rfl rfl ?_
        refine W.move rfl rfl ?_
        first | refine W.remI rfl rfl (by omega) rfl ?_ | refine W.remW rfl rfl (by omega) rfl ?_
        refine W.litV [.int .i64 ((pairN g i : Int) % n)] XI Try.underlying48 rfl rfl (fun u hu => by simp at hu; subst hu; rfl) rfl rfl rfl ?_
        intro g32 w32 hg32 hX32 _ hS32
        have hO32 := ownsRow_ext hO1 hX32
        refine W.append XI Try.underlying48 rfl rfl hO32 hS32 (fun u hu => by simp at hu; subst hu; rfl) (by simp only [List.length_singleton]; omega) (by simp only [List.length_singleton]; omega) (by have := hX1.size; have := hX32.size; omega) rfl ?_
        intro v33 w33 ho33 hg33 _
        have hX33 : Ext w w33 := (hX1.ext hX32).news (Chg.of_grown hg33) (fun k hk => Or.inr ((World.ownsRow.lt hO32 k hk.symm).1))
        refine W.assign rfl rfl ?_
        refine W.nil ?_
        refine At.blockNormal ?_
        refine At.thenCode ?_
        refine C.region ?_
        first | refine W.addI rfl rfl (by omega) rfl ?_ | refine W.addW rfl rfl rfl ?_
        refine W.move rfl rfl ?_
        refine W.nil ?_
        refine At.thenRound (i + 1, v33) (Sub.cons (rfl) (Sub.cons (rfl) (Sub.cons (rfl) (Sub.cons (rfl) (Sub.cons (look_eq rfl (by rw [show (i : Int) + 1 = ((i + 1 : Nat) : Int) by omega])) (Sub.nil)))))) (show Ext w _ ∧ (i + 1) ≤ sidesN n + 1 ∧ World.ownsRow _ w.heap.size 3 1 (v33) (setP g n (i + 1)).length ((setP g n (i + 1)).map (.int .i64)) from ?_) (show sidesN n + 1 - (i + 1) < sidesN n + 1 - i from ?_)
        · refine ⟨hX33, by omega, ?_⟩
          rw [setP, if_neg (hpe.1 (by omega)), List.length_append, List.map_append]; exact ho33
        · omega
      · refine C.skip ?_
        refine At.blockNormal ?_
        refine At.thenCode ?_
        refine C.region ?_
        first | refine W.addI rfl rfl (by omega) rfl ?_ | refine W.addW rfl rfl rfl ?_
        refine W.move rfl rfl ?_
        refine W.nil ?_
        refine At.thenRound (i + 1, v) (Sub.cons (rfl) (Sub.cons (rfl) (Sub.cons (rfl) (Sub.cons (rfl) (Sub.cons (look_eq rfl (by rw [show (i : Int) + 1 = ((i + 1 : Nat) : Int) by omega])) (Sub.nil)))))) (show Ext w _ ∧ (i + 1) ≤ sidesN n + 1 ∧ World.ownsRow _ w.heap.size 3 1 (v) (setP g n (i + 1)).length ((setP g n (i + 1)).map (.int .i64)) from ?_) (show sidesN n + 1 - (i + 1) < sidesN n + 1 - i from ?_)
        · refine ⟨hX1, by omega, ?_⟩
          have hig : (i : Int) = g := by
            by_cases h : (i : Int) = g
            · exact h
            · exact absurd (hpe.2 h) c27
          rw [setP, if_pos hig]; exact hO1
        · omega
    · obtain rfl : i = sidesN n + 1 := by omega
      obtain ⟨ao1, c1, rfl, hS1, hb1⟩ := ownsRow_form hO1
      refine C.exit ?_
      refine At.thenExit ?_
      refine At.thenExit ?_
      refine At.blockSelf ?_
      refine At.thenCode ?_
      refine C.seq ?_
      refine C.region ?_
      refine W.move rfl rfl ?_
      refine W.assign rfl rfl ?_
      refine W.assign rfl rfl ?_
      refine W.nil ?_
      refine At.thenCode ?_
      refine C.ret ?_
      refine At.ret2 Try.results34 rfl rfl ?_
      exact ⟨⟨ao1, c1, by unfold setR setE; rw [if_pos hok, if_pos hok]; rfl, by unfold setR; rw [if_pos hok]; exact hS1, hb1⟩, hX1⟩
theorem Shared_ok (a b n : Int) (w : World) (ha : -9223372036854775808 ≤ a ∧ a ≤ 9223372036854775807) (hb : -9223372036854775808 ≤ b ∧ b ≤ 9223372036854775807) (hn : -9223372036854775808 ≤ n ∧ n ≤ 9223372036854775807) : Ct Try.prog 39 #[.int .i64 a, .int .i64 b, .int .i64 n] w (fun v w' => v = .tuple #[.int .i64 (sharedN a b n), .int .i64 (sharedE a b n : Int)] ∧ Ext w w') := by
  refine Ct.enter [(0, .int .i64 a), (1, .int .i64 b), (2, .int .i64 n)] Try.func39 rfl rfl rfl rfl ?_
  refine C.seq ?_
  refine C.region ?_
  refine W.assign rfl rfl ?_
  refine W.assign rfl rfl ?_
  refine W.nil ?_
  refine At.thenCode ?_
  refine C.seq ?_
  refine C.seq ?_
  refine C.region ?_
  refine W.move rfl rfl ?_
  refine W.move rfl rfl ?_
  refine W.call Try.call51 rfl (Sets.group_ok _ _ _ (by omega)) rfl ?_
  rintro v14 w14 ⟨rfl, rfl⟩
  first | refine W.notD rfl rfl ?_ | refine W.notB rfl rfl ?_
  refine W.move rfl rfl ?_
  first | refine W.splitD (fun g16 => ?_) (fun g16 => ?_) | refine W.splitB (fun g16 => ?_) (fun g16 => ?_)
  · refine W.skips rfl rfl rfl rfl rfl rfl ?_
    refine W.skips rfl rfl rfl rfl rfl rfl ?_
    refine W.skips rfl rfl rfl rfl rfl rfl ?_
    refine W.skips rfl rfl rfl rfl rfl rfl ?_
    refine W.pickT rfl rfl rfl ?_
    refine W.nil ?_
    refine At.thenCode ?_
    refine C.condT rfl ?_
    refine C.seq ?_
    refine C.region ?_
    refine W.assign rfl rfl ?_
    refine W.assign rfl rfl ?_
    refine W.nil ?_
    refine At.thenCode ?_
    refine C.ret ?_
    refine At.thenRet ?_
    refine At.ret2 Try.results39 rfl rfl ?_
    first
    | exact ⟨by show Value.tuple #[.int .i64 ((setL a n).headD 0), .int .i64 (setE a n : Int)] = _; unfold sharedN sharedE; rw [if_pos (And.intro hoka hokb), if_pos c24, if_pos (And.intro hoka hokb), hEl], hX28⟩
    | exact ⟨by show Value.tuple #[.int .i64 ((pairN a b : Int) % n), .int .i64 (pairE a b : Int)] = _; unfold sharedN sharedE; rw [if_pos (And.intro hoka hokb), if_neg c24, if_pos (And.intro hoka hokb), hpe], Ext.refl _⟩
    | (have hno : ¬ (groupOk a n ∧ groupOk b n) := by first | (have h1 : ¬ groupOk a n := by (first | simpa using g16 | simpa using g15)
                                                               exact fun h => h1 h.1) | (have h1 : ¬ groupOk b n := by simpa using c21
                                                                                         exact fun h => h1 h.2)
       exact ⟨by unfold sharedN sharedE; rw [if_neg hno, if_neg hno]; rfl, Ext.refl _⟩)
  · refine W.wants rfl rfl rfl rfl ?_
    refine W.move rfl rfl ?_
    refine W.wants rfl rfl rfl rfl ?_
    refine W.move rfl rfl ?_
    refine W.wants rfl rfl rfl rfl ?_
    refine W.call Try.call51 rfl (Sets.group_ok _ _ _ (by omega)) rfl ?_
    rintro v19 w19 ⟨rfl, rfl⟩
    refine W.wants rfl rfl rfl rfl ?_
    first | refine W.notD rfl rfl ?_ | refine W.notB rfl rfl ?_
    refine W.pickF rfl rfl rfl ?_
    refine W.nil ?_
    refine At.thenCode ?_
    first | refine C.condD rfl (fun c21 => ?_) (fun c21 => ?_) | refine C.cond rfl (fun c21 => ?_) (fun c21 => ?_)
    · refine C.seq ?_
      refine C.region ?_
      refine W.assign rfl rfl ?_
      refine W.assign rfl rfl ?_
      refine W.nil ?_
      refine At.thenCode ?_
      refine C.ret ?_
      refine At.thenRet ?_
      refine At.ret2 Try.results39 rfl rfl ?_
      first
      | exact ⟨by show Value.tuple #[.int .i64 ((setL a n).headD 0), .int .i64 (setE a n : Int)] = _; unfold sharedN sharedE; rw [if_pos (And.intro hoka hokb), if_pos c24, if_pos (And.intro hoka hokb), hEl], hX28⟩
      | exact ⟨by show Value.tuple #[.int .i64 ((pairN a b : Int) % n), .int .i64 (pairE a b : Int)] = _; unfold sharedN sharedE; rw [if_pos (And.intro hoka hokb), if_neg c24, if_pos (And.intro hoka hokb), hpe], Ext.refl _⟩
      | (have hno : ¬ (groupOk a n ∧ groupOk b n) := by first | (have h1 : ¬ groupOk a n := by (first | simpa using g16 | simpa using g15)
                                                                 exact fun h => h1 h.1) | (have h1 : ¬ groupOk b n := by simpa using c21
                                                                                           exact fun h => h1 h.2)
         exact ⟨by unfold sharedN sharedE; rw [if_neg hno, if_neg hno]; rfl, Ext.refl _⟩)
    · refine C.skip ?_
      refine At.thenCode ?_
      refine C.seq ?_
      refine C.seq ?_
      refine C.region ?_
      refine W.move rfl rfl ?_
      refine W.move rfl rfl ?_
      refine W.eqlI rfl rfl rfl ?_
      refine W.nil ?_
      refine At.thenCode ?_
      first | refine C.condD rfl (fun c24 => ?_) (fun c24 => ?_) | refine C.cond rfl (fun c24 => ?_) (fun c24 => ?_)
      · have hoka : groupOk a n := by first | simpa using g16 | simpa using g15
        have hokb : groupOk b n := by simpa using c21
        have hEl : setE a n = 0 := by unfold setE; rw [if_pos hoka]
        have hRl : setR a n = setL a n := by unfold setR; rw [if_pos hoka]
        have hll := setL_length hoka
        have hl1 := (sides_spec hoka.1).1
        refine C.seq ?_
        refine C.region ?_
        refine W.move rfl rfl ?_
        refine W.move rfl rfl ?_
        refine W.call Try.call34 rfl (Sets.Set_ok _ _ _ (by omega) (by omega)) rfl ?_
        rintro v28 w28 ⟨⟨ao28, c28, rfl, hS28, hfS28⟩, hX28⟩
        refine W.move rfl rfl ?_
        refine W.extract rfl rfl rfl ?_
        refine W.extract rfl rfl rfl ?_
        refine W.assign rfl rfl ?_
        refine W.assign rfl rfl ?_
        refine W.nil ?_
        refine At.thenCode ?_
        refine C.seq ?_
        refine C.region ?_
        refine W.move rfl rfl ?_
        refine W.indexS XI Try.underlying48 rfl hS28 rfl (by rw [hRl, hll]; omega) rfl ?_
        intro ad _ _ hc32
        refine W.load (v := .int .i64 ((setL a n).headD 0)) rfl Try.underlying3 rfl (by
          have h0 := hc32 0 (.int .i64 ((setL a n).headD 0)) (by
            rw [hRl]
            cases hsl : setL a n with
            | nil => rw [hsl] at hll; simp at hll; omega
            | cons x r => rfl)
          rwa [add_zero'] at h0) rfl ?_
        refine W.move rfl rfl ?_
        refine W.assign rfl rfl ?_
        refine W.assign rfl rfl ?_
        refine W.nil ?_
        refine At.thenCode ?_
        refine C.ret ?_
        refine At.thenRet ?_
        refine At.ret2 Try.results39 rfl rfl ?_
        first
        | exact ⟨by show Value.tuple #[.int .i64 ((setL a n).headD 0), .int .i64 (setE a n : Int)] = _; unfold sharedN sharedE; rw [if_pos (And.intro hoka hokb), if_pos c24, if_pos (And.intro hoka hokb), hEl], hX28⟩
        | exact ⟨by show Value.tuple #[.int .i64 ((pairN a b : Int) % n), .int .i64 (pairE a b : Int)] = _; unfold sharedN sharedE; rw [if_pos (And.intro hoka hokb), if_neg c24, if_pos (And.intro hoka hokb), hpe], Ext.refl _⟩
        | (have hno : ¬ (groupOk a n ∧ groupOk b n) := by first | (have h1 : ¬ groupOk a n := by (first | simpa using g16 | simpa using g15)
                                                                   exact fun h => h1 h.1) | (have h1 : ¬ groupOk b n := by simpa using c21
                                                                                             exact fun h => h1 h.2)
           exact ⟨by unfold sharedN sharedE; rw [if_neg hno, if_neg hno]; rfl, Ext.refl _⟩)
      · have hoka : groupOk a n := by first | simpa using g16 | simpa using g15
        have hokb : groupOk b n := by simpa using c21
        have hn1 : 1 ≤ n ∧ n ≤ 1048576 := hoka.1
        have hpe : pairE a b = 0 := by
          have h1 := group_le hoka
          have h2 := group_le hokb
          have h3 := hoka.2
          have h4 := hokb.2
          unfold pairE; rw [if_neg (by unfold pairBad; omega)]
        refine C.skip ?_
        refine At.thenCode ?_
        refine C.seq ?_
        refine C.region ?_
        refine W.move rfl rfl ?_
        refine W.move rfl rfl ?_
        refine W.call Try.call52 rfl (Sets.Pair_ok _ _ _ (by omega) (by omega)) rfl ?_
        rintro v38 w38 ⟨rfl, rfl⟩
        refine W.move rfl rfl ?_
        refine W.extract rfl rfl rfl ?_
        refine W.extract rfl rfl rfl ?_
        refine W.assign rfl rfl ?_
        refine W.assign rfl rfl ?_
        refine W.nil ?_
        refine At.thenCode ?_
        refine C.seq ?_
        refine C.region ?_
        refine W.move rfl rfl ?_
        refine W.move rfl rfl ?_
        first | refine W.remI rfl rfl (by omega) rfl ?_ | refine W.remW rfl rfl (by omega) rfl ?_
        refine W.move rfl rfl ?_
        refine W.assign rfl rfl ?_
        refine W.assign rfl rfl ?_
        refine W.nil ?_
        refine At.thenCode ?_
        refine C.ret ?_
        refine At.ret2 Try.results39 rfl rfl ?_
        first
        | exact ⟨by show Value.tuple #[.int .i64 ((setL a n).headD 0), .int .i64 (setE a n : Int)] = _; unfold sharedN sharedE; rw [if_pos (And.intro hoka hokb), if_pos c24, if_pos (And.intro hoka hokb), hEl], hX28⟩
        | exact ⟨by show Value.tuple #[.int .i64 ((pairN a b : Int) % n), .int .i64 (pairE a b : Int)] = _; unfold sharedN sharedE; rw [if_pos (And.intro hoka hokb), if_neg c24, if_pos (And.intro hoka hokb), hpe], Ext.refl _⟩
        | (have hno : ¬ (groupOk a n ∧ groupOk b n) := by first | (have h1 : ¬ groupOk a n := by (first | simpa using g16 | simpa using g15)
                                                                   exact fun h => h1 h.1) | (have h1 : ¬ groupOk b n := by simpa using c21
                                                                                             exact fun h => h1 h.2)
           exact ⟨by unfold sharedN sharedE; rw [if_neg hno, if_neg hno]; rfl, Ext.refl _⟩)
end Go.Proofs.Ytomfnficblnngaa.Sets
