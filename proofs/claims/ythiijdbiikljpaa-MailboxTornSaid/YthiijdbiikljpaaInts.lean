/- Slices of ints: the reference's SameInts. -/
import Derived.Test.YthiijdbiikljpaaWords
import Derived.Test.YthiijdbiikljpaaKx
import Derived.Test.YthiijdbiikljpaaKe
import Derived.Test.YthiijdbiikljpaaKr
namespace Go.Proofs.Ythiijdbiikljpaa.Ints
open Go Go.RowKit Go.Proofs.Ythiijdbiikljpaa.KW Go.Proofs.Ythiijdbiikljpaa.Words
set_option linter.unusedVariables false
set_option linter.unusedSimpArgs false
set_option maxRecDepth 100000

abbrev Zs (w : World) (ao : Option Addr) (c : Nat) (xs : List Int) : Prop := Sl w ao xs.length c 1 (xs.map (.int .i64))
abbrev Oz (w : World) (base : Nat) (v : Value) (xs : List Int) : Prop := w.ownsRow base 3 1 v xs.length (xs.map (.int .i64))
theorem get_z {xs : List Int} {i : Nat} (h : i < xs.length) : (xs.map (.int .i64) : List Value)[i]? = some (.int .i64 (xs.getD i 0)) := by
  rw [List.getElem?_map, List.getElem?_eq_getElem h]; simp [List.getD, h]
theorem getD_of {xs : List Int} {i : Nat} (h : i < xs.length) : xs.getD i 0 = xs[i]'h := by simp [List.getD, h]
theorem take_same {xs ys : List Int} {i : Nat} (h1 : i < xs.length) (h2 : i < ys.length) (h : xs.take i = ys.take i) (e : xs.getD i 0 = ys.getD i 0) : xs.take (i + 1) = ys.take (i + 1) := by
  rw [List.take_succ_eq_append_getElem h1, List.take_succ_eq_append_getElem h2, h, ← getD_of h1, ← getD_of h2, e]
/-- The address of an element: what is there. -/
def PtI (w : World) (v : Value) (x : Int) : Prop := ∃ ad, v = .pointer (some ad) ∧ w.cell? ad = some (.int .i64 x)
theorem PtI.ext {w w' : World} {v : Value} {x : Int} (h : PtI w v x) (g : Ext w w') : PtI w' v x := by
  obtain ⟨ad, e, h⟩ := h
  exact ⟨ad, e, Chg.cell g h fun c => c⟩
theorem PtI.of {w : World} {ad : Addr} {xs : List Int} {i : Nat} (hc : Cells w ad ((xs.map (.int .i64)).drop ((i : Int).toNat * 1))) (h : i < xs.length) : PtI w (.pointer (some ad)) (xs.getD i 0) := by
  refine ⟨ad, rfl, ?_⟩
  have := hc 0 (.int .i64 (xs.getD i 0)) (by rw [List.getElem?_drop, Int.toNat_natCast, Nat.mul_one, Nat.add_zero]; exact get_z h)
  exact this
theorem SameInts_ok (ao : Option Addr) (c : Nat) (xs : List Int) (bo : Option Addr) (cb : Nat) (ys : List Int) (w : World) (hS : Zs w ao c xs) (hT : Zs w bo cb ys) (hl : xs.length ≤ 1000000) :
    Ct Try.prog 12 #[.slice ao xs.length c, .slice bo ys.length cb] w (fun v w' => v = .bool (decide (xs = ys)) ∧ Ext w w') := by
  refine Ct.enter [(0, .slice ao xs.length c), (1, .slice bo ys.length cb)] Try.func12 rfl rfl rfl rfl ?_
  refine C.seq ?_
  refine C.region ?_
  refine W.assign rfl rfl ?_
  refine W.nil ?_
  refine At.thenCode ?_
  refine C.seq ?_
  refine C.seq ?_
  refine C.region ?_
  refine W.move rfl rfl ?_
  refine W.lenS rfl Try.underlying22 rfl ?_
  refine W.move rfl rfl ?_
  refine W.lenS rfl Try.underlying22 rfl ?_
  refine W.neqI rfl rfl rfl ?_
  refine W.nil ?_
  refine At.thenCode ?_
  first | refine C.condD rfl (fun c10 => ?_) (fun c10 => ?_) | refine C.cond rfl (fun c10 => ?_) (fun c10 => ?_)
  · refine C.seq ?_
    refine C.region ?_
    refine W.assign rfl rfl ?_
    refine W.nil ?_
    refine At.thenCode ?_
    refine C.ret ?_
    refine At.thenRet ?_
    refine At.ret1 Try.results12 rfl ?_
    first
    | exact ⟨by rw [decide_eq_false]; intro h; rw [h] at c10; exact c10 rfl, Ext.refl _⟩
    | exact ⟨by rw [decide_eq_false]; intro h; rw [h] at c25; exact c25 rfl, hX1.ext hX6⟩
    | exact ⟨by rw [decide_eq_true]; rw [List.take_of_length_le (by omega), List.take_of_length_le (by omega)] at he; exact he, hX1⟩
  · refine C.skip ?_
    refine At.thenCode ?_
    refine C.seq ?_
    refine C.seq ?_
    refine C.region ?_
    refine W.assign rfl rfl ?_
    refine W.nil ?_
    refine At.thenCode ?_
    refine C.block ?_
    refine C.loop (X := Nat) (fun x_ => [(0, .slice ao xs.length c), (1, .slice bo ys.length cb), (5, .int .i64 (x_ : Int))]) (fun x_ w1 => Ext w w1 ∧ x_ ≤ xs.length ∧ xs.take x_ = ys.take x_) (fun x_ => xs.length - x_) (0) (Sub.cons (rfl) (Sub.cons (rfl) (Sub.cons (rfl) (Sub.nil)))) ?start1 ?_
    case start1 =>
      show Ext w _ ∧ (0) ≤ xs.length ∧ xs.take (0) = ys.take (0)
      exact ⟨Ext.refl _, by omega, rfl⟩
    rintro i w1 hI_
    replace hI_ : Ext w w1 ∧ i ≤ xs.length ∧ xs.take i = ys.take i := hI_
    obtain ⟨hX1, hi, he⟩ := hI_
    refine C.weaken (l' := [(0, .slice ao xs.length c), (1, .slice bo ys.length cb), (5, .int .i64 (i : Int))]) (Sub.cons (rfl) (Sub.cons (rfl) (Sub.cons (rfl) (Sub.nil)))) ?_
    refine C.seq ?_
    refine C.seq ?_
    refine C.region ?_
    refine W.move rfl rfl ?_
    refine W.move rfl rfl ?_
    refine W.lenS rfl Try.underlying22 rfl ?_
    refine W.lssI rfl rfl rfl ?_
    refine W.nil ?_
    refine At.thenCode ?_
    first | refine C.condD rfl (fun c14 => ?_) (fun c14 => ?_) | refine C.cond rfl (fun c14 => ?_) (fun c14 => ?_)
    · have h1 : i < xs.length := by omega
      have h2 : i < ys.length := by omega
      refine C.skip ?_
      refine At.thenCode ?_
      refine C.seq ?_
      refine C.block ?_
      refine C.seq ?_
      refine C.regionAny 9 ((fun v w => v = .slice ao xs.length c) :: (fun v w => v = .int .i64 (i : Int)) :: (fun v w => PtI w v (xs.getD i 0)) :: (fun v w => v = .int .i64 (xs.getD i 0)) :: (fun v w => v = .slice bo ys.length cb) :: (fun v w => v = .int .i64 (i : Int)) :: (fun v w => PtI w v (ys.getD i 0)) :: (fun v w => v = .int .i64 (ys.getD i 0)) :: (fun v w => v = .bool (decide (¬ xs.getD i 0 = ys.getD i 0))) :: []) [(0, .slice ao xs.length c), (1, .slice bo ys.length cb), (5, .int .i64 (i : Int))] [] (Sub.cons (rfl) (Sub.cons (rfl) (Sub.cons (rfl) (Sub.nil)))) (Sub.nil) (Sub.cons (rfl) (Sub.cons (rfl) (Sub.cons (rfl) (Sub.nil)))) (by kernel_rfl) rfl rfl rfl (And.intro (fun _ _ _ h _ => h) (And.intro (fun _ _ _ h _ => h) (And.intro (fun _ _ _ h g => h.ext g) (And.intro (fun _ _ _ h _ => h) (And.intro (fun _ _ _ h _ => h) (And.intro (fun _ _ _ h _ => h) (And.intro (fun _ _ _ h g => h.ext g) (And.intro (fun _ _ _ h _ => h) (And.intro (fun _ _ _ h _ => h) (trivial)))))))))) ?_ ?_
      · refine And.intro ?_ ?_
        · intro L_ w2 hX_ hs_ hf_ hd_
          refine W.step [(0, _)] (Sub.cons (hs_ _ _ rfl) (Sub.refl _)) ?_
          refine W.move rfl rfl ?_
          refine W.nil ?_
          exact At.step (Ext.refl _) rfl
        refine And.intro ?_ ?_
        · intro L_ w2 hX_ hs_ hf_ hd_
          refine W.step [(5, _)] (Sub.cons (hs_ _ _ rfl) (Sub.refl _)) ?_
          refine W.move rfl rfl ?_
          refine W.nil ?_
          exact At.step (Ext.refl _) rfl
        refine And.intro ?_ ?_
        · intro L_ w2 hX_ hs_ hf_ hd_
          obtain ⟨v0, e0, r0⟩ := hd_ 0 rfl
          obtain rfl : (.slice ao xs.length c : Value) = v0 := Eq.symm r0
          obtain ⟨v1, e1, r1⟩ := hd_ 1 rfl
          obtain rfl : (.int .i64 (i : Int) : Value) = v1 := Eq.symm r1
          refine W.step [(17, _), (18, _)] (Sub.cons (e0 _ rfl) (Sub.cons (e1 _ rfl) (Sub.refl _))) ?_
          refine W.indexS (i := (i : Int)) XI Try.underlying22 rfl ((hS.ext hX1).ext hX_) rfl ⟨by omega, by omega⟩ rfl ?_
          intro ad19 _ _ hc19
          have hp19 := PtI.of hc19 h1
          refine W.nil ?_
          exact At.step (Ext.refl _) hp19
        refine And.intro ?_ ?_
        · intro L_ w2 hX_ hs_ hf_ hd_
          obtain ⟨v2, e2, r2⟩ := hd_ 2 rfl
          obtain ⟨ad2, rfl, hc2⟩ := r2
          refine W.step [(19, _)] (Sub.cons (e2 _ rfl) (Sub.refl _)) ?_
          refine W.load (v := .int .i64 (xs.getD i 0)) rfl Try.underlying3 rfl hc2 rfl ?_
          refine W.nil ?_
          exact At.step (Ext.refl _) rfl
        refine And.intro ?_ ?_
        · intro L_ w2 hX_ hs_ hf_ hd_
          refine W.step [(1, _)] (Sub.cons (hs_ _ _ rfl) (Sub.refl _)) ?_
          refine W.move rfl rfl ?_
          refine W.nil ?_
          exact At.step (Ext.refl _) rfl
        refine And.intro ?_ ?_
        · intro L_ w2 hX_ hs_ hf_ hd_
          refine W.step [(5, _)] (Sub.cons (hs_ _ _ rfl) (Sub.refl _)) ?_
          refine W.move rfl rfl ?_
          refine W.nil ?_
          exact At.step (Ext.refl _) rfl
        refine And.intro ?_ ?_
        · intro L_ w2 hX_ hs_ hf_ hd_
          obtain ⟨v4, e4, r4⟩ := hd_ 4 rfl
          obtain rfl : (.slice bo ys.length cb : Value) = v4 := Eq.symm r4
          obtain ⟨v5, e5, r5⟩ := hd_ 5 rfl
          obtain rfl : (.int .i64 (i : Int) : Value) = v5 := Eq.symm r5
          refine W.step [(21, _), (22, _)] (Sub.cons (e4 _ rfl) (Sub.cons (e5 _ rfl) (Sub.refl _))) ?_
          refine W.indexS (i := (i : Int)) XI Try.underlying22 rfl ((hT.ext hX1).ext hX_) rfl ⟨by omega, by omega⟩ rfl ?_
          intro ad23 _ _ hc23
          have hp23 := PtI.of hc23 h2
          refine W.nil ?_
          exact At.step (Ext.refl _) hp23
        refine And.intro ?_ ?_
        · intro L_ w2 hX_ hs_ hf_ hd_
          obtain ⟨v6, e6, r6⟩ := hd_ 6 rfl
          obtain ⟨ad6, rfl, hc6⟩ := r6
          refine W.step [(23, _)] (Sub.cons (e6 _ rfl) (Sub.refl _)) ?_
          refine W.load (v := .int .i64 (ys.getD i 0)) rfl Try.underlying3 rfl hc6 rfl ?_
          refine W.nil ?_
          exact At.step (Ext.refl _) rfl
        refine And.intro ?_ ?_
        · intro L_ w2 hX_ hs_ hf_ hd_
          obtain ⟨v3, e3, r3⟩ := hd_ 3 rfl
          obtain rfl : (.int .i64 (xs.getD i 0) : Value) = v3 := Eq.symm r3
          obtain ⟨v7, e7, r7⟩ := hd_ 7 rfl
          obtain rfl : (.int .i64 (ys.getD i 0) : Value) = v7 := Eq.symm r7
          refine W.step [(20, _), (24, _)] (Sub.cons (e3 _ rfl) (Sub.cons (e7 _ rfl) (Sub.refl _))) ?_
          refine W.neqI rfl rfl rfl ?_
          refine W.nil ?_
          exact At.step (Ext.refl _) rfl
        exact trivial
      · intro L_ w2 hX6 hs_ hv_
        obtain ⟨v8, e8, r8⟩ := hv_ 8 (by decide)
        obtain rfl : (.bool (decide (¬ xs.getD i 0 = ys.getD i 0)) : Value) = v8 := Eq.symm r8
        refine W.weaken (l' := [(25, _), (0, _), (1, _), (5, _)]) (Sub.cons (e8 _ rfl) (Sub.cons (hs_ _ _ rfl) (Sub.cons (hs_ _ _ rfl) (Sub.cons (hs_ _ _ rfl) (Sub.nil))))) ?_
        refine W.nil ?_
        refine At.thenCode ?_
        first | refine C.condD rfl (fun c25 => ?_) (fun c25 => ?_) | refine C.cond rfl (fun c25 => ?_) (fun c25 => ?_)
        · refine C.seq ?_
          refine C.region ?_
          refine W.assign rfl rfl ?_
          refine W.nil ?_
          refine At.thenCode ?_
          refine C.ret ?_
          refine At.blockRet ?_
          refine At.thenRet ?_
          refine At.thenRet ?_
          refine At.blockRet ?_
          refine At.thenRet ?_
          refine At.ret1 Try.results12 rfl ?_
          first
          | exact ⟨by rw [decide_eq_false]; intro h; rw [h] at c10; exact c10 rfl, Ext.refl _⟩
          | exact ⟨by rw [decide_eq_false]; intro h; rw [h] at c25; exact c25 rfl, hX1.ext hX6⟩
          | exact ⟨by rw [decide_eq_true]; rw [List.take_of_length_le (by omega), List.take_of_length_le (by omega)] at he; exact he, hX1⟩
        · refine C.skip ?_
          refine At.blockNormal ?_
          refine At.thenCode ?_
          refine C.region ?_
          refine W.move rfl rfl ?_
          first | refine W.addI rfl rfl (by omega) rfl ?_ | refine W.addW rfl rfl rfl ?_
          refine W.assign rfl rfl ?_
          refine W.nil ?_
          refine At.thenRound (i + 1) (Sub.cons (rfl) (Sub.cons (rfl) (Sub.cons (rfl) (Sub.nil)))) (show Ext w _ ∧ (i + 1) ≤ xs.length ∧ xs.take (i + 1) = ys.take (i + 1) from ?_) (show xs.length - (i + 1) < xs.length - i from ?_)
          · exact ⟨hX1.ext hX6, by omega, take_same h1 h2 he (by simpa using c25)⟩
          · omega
    · refine C.exit ?_
      refine At.thenExit ?_
      refine At.thenExit ?_
      refine At.blockSelf ?_
      refine At.thenCode ?_
      refine C.seq ?_
      refine C.region ?_
      refine W.assign rfl rfl ?_
      refine W.nil ?_
      refine At.thenCode ?_
      refine C.ret ?_
      refine At.ret1 Try.results12 rfl ?_
      first
      | exact ⟨by rw [decide_eq_false]; intro h; rw [h] at c10; exact c10 rfl, Ext.refl _⟩
      | exact ⟨by rw [decide_eq_false]; intro h; rw [h] at c25; exact c25 rfl, hX1.ext hX6⟩
      | exact ⟨by rw [decide_eq_true]; rw [List.take_of_length_le (by omega), List.take_of_length_le (by omega)] at he; exact he, hX1⟩
end Go.Proofs.Ythiijdbiikljpaa.Ints
