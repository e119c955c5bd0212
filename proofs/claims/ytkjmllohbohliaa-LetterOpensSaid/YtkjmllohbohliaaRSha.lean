/- The reference's Sha: its walks. -/
import Derived.Test.YtkjmllohbohliaaSha
namespace Go.Proofs.Ytkjmllohbohliaa.RSha
open Go Go.RowKit Go.Proofs.Ytkjmllohbohliaa.KW Go.Proofs.Ytkjmllohbohliaa.Words Go.Proofs.Ytkjmllohbohliaa.Sha
set_option linter.unusedVariables false
set_option linter.unusedSimpArgs false
set_option maxRecDepth 100000

def Lt32 (l : List Nat) : Prop := ∀ x ∈ l, x < 4294967296
theorem Lt32.get {l : List Nat} (h : Lt32 l) (j : Nat) : l.getD j 0 < 4294967296 := by
  simp only [List.getD]
  cases hj : l[j]? with
  | none => decide
  | some x => exact h x (List.mem_of_getElem? hj)
theorem addM_lt32 (a b : Nat) : addM 4294967296 a b < 4294967296 := Nat.mod_lt _ (by decide)
theorem Lt32.snoc {l : List Nat} (h : Lt32 l) {x : Nat} (hx : x < 4294967296) : Lt32 (l ++ [x]) := by
  intro y hy
  rcases List.mem_append.1 hy with hy | hy
  · exact h y hy
  · simp at hy; subst hy; exact hx
theorem sch_lt {ws : List Nat} (h : Lt32 ws) : ∀ i, Lt32 (sch ws i) := by
  intro i
  induction i with
  | zero => intro x hx; cases hx
  | succ i ih =>
    rw [sch]
    refine ih.snoc ?_
    split
    · exact h.get i
    · exact addM_lt32 _ _
theorem stepL_lt {l : List Nat} (hl : l.length = 8) (h : Lt32 l) (k : Nat) : Lt32 (stepL l k) := by
  obtain ⟨a, b, c, d, e, f, g, i, rfl⟩ := eight hl
  intro x hx
  simp only [stepL, List.mem_cons, List.not_mem_nil, or_false] at hx
  have hm : ∀ y ∈ [a, b, c, d, e, f, g, i], y < 4294967296 := h
  rcases hx with rfl | rfl | rfl | rfl | rfl | rfl | rfl | rfl
  · exact addM_lt32 _ _
  · exact hm _ (by simp)
  · exact hm _ (by simp)
  · exact hm _ (by simp)
  · exact addM_lt32 _ _
  · exact hm _ (by simp)
  · exact hm _ (by simp)
  · exact hm _ (by simp)
theorem rnd_lt {hs : List Nat} (hl : hs.length = 8) (h : Lt32 hs) (ks ws : List Nat) : ∀ i, Lt32 (rnd hs ks ws i) := by
  intro i
  induction i with
  | zero => exact h
  | succ i ih => exact stepL_lt (rnd_length hl ks ws i) ih _
theorem addL_lt : ∀ (x y : List Nat), Lt32 (addL x y) := by
  intro x
  induction x with
  | nil => intro y z hz; cases y <;> cases hz
  | cons a r ih =>
    intro y
    cases y with
    | nil => intro z hz; cases hz
    | cons b q =>
      intro z hz
      rcases List.mem_cons.1 hz with rfl | hz
      · exact addM_lt32 _ _
      · exact ih q z hz
theorem blkH_lt (all : List UInt8) : ∀ j, Lt32 (blkH all j) := by
  intro j
  cases j with
  | zero => intro x hx; change x ∈ shaH at hx; revert x; decide
  | succ j => exact addL_lt _ _
theorem wordsOf_lt (b : List UInt8) : Lt32 (wordsOf b) := by
  intro x hx
  obtain ⟨j, _, rfl⟩ := List.mem_map.1 hx
  exact getV_lt _ _ 4
theorem sch_take {ws : List Nat} (h : ws.length = 16) : ∀ i, i ≤ 16 → sch ws i = ws.take i := by
  intro i
  induction i with
  | zero => intro _; simp [sch]
  | succ i ih =>
    intro hi
    rw [sch_low ws (by omega), ih (by omega), List.take_succ_eq_append_getElem (by omega)]
    simp [List.getD, show i < ws.length by omega]
theorem addM_assoc (a b c : Nat) : addM 4294967296 (addM 4294967296 a b) c = addM 4294967296 a (addM 4294967296 b c) := by
  unfold addM; omega
theorem addM_swap (p b x y : Nat) : addM 4294967296 (addM 4294967296 (addM 4294967296 p b) x) y = addM 4294967296 (addM 4294967296 (addM 4294967296 p x) b) y := by
  unfold addM; omega
/-- Shifted: place k and those behind hold what stood one ahead. -/
def shf : List Nat → Nat → List Nat
  | [a, b, c, d, e, f, g, h], 7 => [a, b, c, d, e, f, g, h]
  | [a, b, c, d, e, f, g, h], 6 => [a, b, c, d, e, f, g, g]
  | [a, b, c, d, e, f, g, h], 5 => [a, b, c, d, e, f, f, g]
  | [a, b, c, d, e, f, g, h], 4 => [a, b, c, d, e, e, f, g]
  | [a, b, c, d, e, f, g, h], 3 => [a, b, c, d, d, e, f, g]
  | [a, b, c, d, e, f, g, h], 2 => [a, b, c, c, d, e, f, g]
  | [a, b, c, d, e, f, g, h], 1 => [a, b, b, c, d, e, f, g]
  | [a, b, c, d, e, f, g, h], _ => [a, a, b, c, d, e, f, g]
  | l, _ => l
theorem shf_step (a b c d e f g h : Nat) {k : Nat} (h0 : 0 < k) (h7 : k ≤ 7) : ∃ v, ((shf [a, b, c, d, e, f, g, h] k).map u32V)[k - 1]? = some (u32V v) ∧ ((shf [a, b, c, d, e, f, g, h] k).map u32V).set k (u32V v) = (shf [a, b, c, d, e, f, g, h] (k - 1)).map u32V := by
  rcases (show k = 1 ∨ k = 2 ∨ k = 3 ∨ k = 4 ∨ k = 5 ∨ k = 6 ∨ k = 7 by omega) with rfl | rfl | rfl | rfl | rfl | rfl | rfl <;> exact ⟨_, rfl, rfl⟩
theorem shf_length (a b c d e f g h : Nat) (k : Nat) (h7 : k ≤ 7) : (shf [a, b, c, d, e, f, g, h] k).length = 8 := by
  rcases (show k = 0 ∨ k = 1 ∨ k = 2 ∨ k = 3 ∨ k = 4 ∨ k = 5 ∨ k = 6 ∨ k = 7 by omega) with rfl | rfl | rfl | rfl | rfl | rfl | rfl | rfl <;> rfl

theorem turn_ok (x : Nat) (n : Int) (w : World) (hx : x < 4294967296) :
    Ct Try.prog 91 #[.int .u32 (x : Int), .int .i64 n] w (fun v w' => v = .int .u32 ((rotV x n : Nat) : Int) ∧ w = w') := by
  refine Ct.enter [(0, .int .u32 (x : Int)), (1, .int .i64 n)] Try.func91 rfl rfl rfl rfl ?_
  refine C.seq ?_
  refine C.region ?_
  refine W.assign rfl rfl ?_
  refine W.nil ?_
  refine At.thenCode ?_
  refine C.seq ?_
  refine C.region ?_
  refine W.move rfl rfl ?_
  refine W.move rfl rfl ?_
  refine W.call Try.call99 rfl (RRot_ok _ _ _ hx) rfl ?_
  rintro v w' ⟨rfl, rfl⟩
  refine W.assign rfl rfl ?_
  refine W.nil ?_
  refine At.thenCode ?_
  refine C.ret ?_
  refine At.ret1 Try.results91 rfl ?_
  exact ⟨rfl, rfl⟩

theorem mixed_ok {hs ws : List Nat} (hh : hs.length = 8) (hhl : Lt32 hs) (hws : ws.length = 16) (hwl : Lt32 ws) (ao : Option Addr) (cp : Nat) (w : World) (hS : Sl w ao 64 cp 1 (shaK.map u32V)) :
    Ct Try.prog 73 #[.agg (hs.map u32V).toArray, .agg (part64 ws).toArray, .slice ao 64 cp] w (fun v w' => v = .agg ((mixV hs shaK (sch ws 64)).map u32V).toArray ∧ Ext w w') := by
  refine Ct.enter [(0, .agg (hs.map u32V).toArray), (1, .agg (part64 ws).toArray), (2, .slice ao 64 cp)] Try.func73 rfl rfl rfl rfl ?_
  obtain ⟨K, hK⟩ : ∃ K, K = shaK := ⟨_, rfl⟩
  have hKl : K.length = 64 := by rw [hK]; rfl
  rw [← hK] at hS ⊢
  refine C.seq ?_
  refine C.region ?_
  refine W.box (hs.map u32V) rfl rfl rfl ?_
  intro g3 w3 hg3 hX3 hB3
  have hs3 := hX3.size
  have hl3 := hB3.lt
  refine W.box (part64 ws) rfl rfl rfl ?_
  intro g4 w4 hg4 hX4 hB4
  have hs4 := hX4.size
  have hl4 := hB4.lt
  refine W.alloc (z := .agg (List.replicate 8 (u32V 0)).toArray) (List.replicate 8 (u32V 0)) (by kernel_rfl) rfl rfl ?_
  intro g6 w6 hg6 hX6 hB6
  have hs6 := hX6.size
  have hl6 := hB6.lt
  have hn34 : g3 ≠ g4 := by omega
  have hn36 : g3 ≠ g6 := by omega
  have hn46 : g4 ≠ g6 := by omega
  have hb3 : w.heap.size ≤ g3 := by omega
  have hb4 : w.heap.size ≤ g4 := by omega
  have hb6 : w.heap.size ≤ g6 := by omega
  refine W.nil ?_
  refine At.thenCode ?_
  refine C.seq ?_
  refine C.seq ?_
  refine C.region ?_
  refine W.assign rfl rfl ?_
  refine W.nil ?_
  refine At.thenCode ?_
  refine C.block ?_
  refine C.loop (X := Nat) (fun x_ => [(2, .slice ao 64 cp), (3, .pointer (some ⟨g3, 0, none⟩)), (4, .pointer (some ⟨g4, 0, none⟩)), (6, .pointer (some ⟨g6, 0, none⟩)), (7, .int .i64 (x_ : Int))]) (fun x_ w1 => Ext w w1 ∧ 16 ≤ x_ ∧ x_ ≤ 64 ∧ Bk w1 g3 (hs.map u32V) ∧ Bk w1 g4 (part64 (sch ws x_)) ∧ Bk w1 g6 (List.replicate 8 (u32V 0))) (fun x_ => 64 - x_) (16) (Sub.cons (rfl) (Sub.cons (rfl) (Sub.cons (rfl) (Sub.cons (rfl) (Sub.cons (rfl) (Sub.nil)))))) ?start1 ?_
  case start1 =>
    show Ext w _ ∧ 16 ≤ (16) ∧ (16) ≤ 64 ∧ Bk _ g3 (hs.map u32V) ∧ Bk _ g4 (part64 (sch ws (16))) ∧ Bk _ g6 (List.replicate 8 (u32V 0))
    exact ⟨(hX3.ext hX4).ext hX6, by omega, by omega, (hB3.ext hX4).ext hX6, by rw [sch_take hws 16 (by omega), List.take_of_length_le (by omega)]; exact hB4.ext hX6, hB6⟩
  rintro i w1 hI_
  replace hI_ : Ext w w1 ∧ 16 ≤ i ∧ i ≤ 64 ∧ Bk w1 g3 (hs.map u32V) ∧ Bk w1 g4 (part64 (sch ws i)) ∧ Bk w1 g6 (List.replicate 8 (u32V 0)) := hI_
  obtain ⟨hX1, hi1, hi, hB3, hB4, hB6⟩ := hI_
  refine C.weaken (l' := [(2, .slice ao 64 cp), (3, .pointer (some ⟨g3, 0, none⟩)), (4, .pointer (some ⟨g4, 0, none⟩)), (6, .pointer (some ⟨g6, 0, none⟩)), (7, .int .i64 (i : Int))]) (Sub.cons (rfl) (Sub.cons (rfl) (Sub.cons (rfl) (Sub.cons (rfl) (Sub.cons (rfl) (Sub.nil)))))) ?_
  refine C.seq ?_
  refine C.seq ?_
  refine C.region ?_
  refine W.move rfl rfl ?_
  refine W.lssI rfl rfl rfl ?_
  refine W.nil ?_
  refine At.thenCode ?_
  first | refine C.condD rfl (fun c19 => ?_) (fun c19 => ?_) | refine C.cond rfl (fun c19 => ?_) (fun c19 => ?_)
  · have hlen := sch_length ws i
    have hsl := sch_lt hwl i
    refine C.skip ?_
    refine At.thenCode ?_
    refine C.seq ?_
    refine C.block ?_
    refine C.seq ?_
    refine C.region ?_
    refine W.move rfl rfl ?_
    first | refine W.subI rfl rfl (by omega) rfl ?_ | refine W.subW rfl rfl rfl ?_
    rw [show (i : Int) - 15 = ((i - 15 : Nat) : Int) by omega]
    refine W.indexA1 Words.X32 Try.underlying91 rfl rfl (by first | omega | decide) rfl ?_
    refine W.loadB rfl Try.underlying84 rfl hB4 (part64_get (by omega)) rfl ?_
    refine W.assign rfl rfl ?_
    refine W.nil ?_
    refine At.thenCode ?_
    refine C.seq ?_
    refine C.region ?_
    refine W.move rfl rfl ?_
    first | refine W.subI rfl rfl (by omega) rfl ?_ | refine W.subW rfl rfl rfl ?_
    rw [show (i : Int) - 2 = ((i - 2 : Nat) : Int) by omega]
    refine W.indexA1 Words.X32 Try.underlying91 rfl rfl (by first | omega | decide) rfl ?_
    refine W.loadB rfl Try.underlying84 rfl hB4 (part64_get (by omega)) rfl ?_
    have hx15 := hsl.get (i - 15)
    have hx2 := hsl.get (i - 2)
    obtain ⟨x, hx⟩ : ∃ x, x = (sch ws i).getD (i - 15) 0 := ⟨_, rfl⟩
    obtain ⟨y, hy⟩ : ∃ y, y = (sch ws i).getD (i - 2) 0 := ⟨_, rfl⟩
    obtain ⟨p, hp⟩ : ∃ p, p = (sch ws i).getD (i - 16) 0 := ⟨_, rfl⟩
    obtain ⟨q, hq⟩ : ∃ q, q = (sch ws i).getD (i - 7) 0 := ⟨_, rfl⟩
    rw [← hx] at hx15
    rw [← hy] at hx2
    rw [← hx, ← hy]
    refine W.assign rfl rfl ?_
    refine W.nil ?_
    refine At.thenCode ?_
    refine C.regionAny 29 ((fun v w => v = .int .i64 (i : Int)) :: (fun v w => v = .int .i64 (i : Int)) :: (fun v w => v = .int .i64 ((i - 16 : Nat) : Int)) :: (fun v w => v = .pointer (some ⟨g4, (i - 16 : Nat), none⟩)) :: (fun v w => v = .int .u32 (p : Int)) :: (fun v w => v = .int .i64 (i : Int)) :: (fun v w => v = .int .i64 ((i - 7 : Nat) : Int)) :: (fun v w => v = .pointer (some ⟨g4, (i - 7 : Nat), none⟩)) :: (fun v w => v = .int .u32 (q : Int)) :: (fun v w => v = .int .u32 ((addM 4294967296 p q : Nat) : Int)) :: (fun v w => v = .int .u32 (x : Int)) :: (fun v w => v = .int .u32 ((rotV x 7 : Nat) : Int)) :: (fun v w => v = .int .u32 (x : Int)) :: (fun v w => v = .int .u32 ((rotV x 18 : Nat) : Int)) :: (fun v w => v = .int .u32 ((xorM 4294967296 (rotV x 7) (rotV x 18) : Nat) : Int)) :: (fun v w => v = .int .u32 (x : Int)) :: (fun v w => v = .int .u32 ((shrM 32 x 3 : Nat) : Int)) :: (fun v w => v = .int .u32 ((xorM 4294967296 (xorM 4294967296 (rotV x 7) (rotV x 18)) (shrM 32 x 3) : Nat) : Int)) :: (fun v w => v = .int .u32 ((addM 4294967296 (addM 4294967296 p q) (xorM 4294967296 (xorM 4294967296 (rotV x 7) (rotV x 18)) (shrM 32 x 3)) : Nat) : Int)) :: (fun v w => v = .int .u32 (y : Int)) :: (fun v w => v = .int .u32 ((rotV y 17 : Nat) : Int)) :: (fun v w => v = .int .u32 (y : Int)) :: (fun v w => v = .int .u32 ((rotV y 19 : Nat) : Int)) :: (fun v w => v = .int .u32 ((xorM 4294967296 (rotV y 17) (rotV y 19) : Nat) : Int)) :: (fun v w => v = .int .u32 (y : Int)) :: (fun v w => v = .int .u32 ((shrM 32 y 10 : Nat) : Int)) :: (fun v w => v = .int .u32 ((xorM 4294967296 (xorM 4294967296 (rotV y 17) (rotV y 19)) (shrM 32 y 10) : Nat) : Int)) :: (fun v w => v = .int .u32 ((nextW p x q y : Nat) : Int)) :: (fun v w => v = .pointer (some ⟨g4, i, none⟩)) :: []) [(2, .slice ao 64 cp), (3, .pointer (some ⟨g3, 0, none⟩)), (4, .pointer (some ⟨g4, 0, none⟩)), (6, .pointer (some ⟨g6, 0, none⟩)), (7, .int .i64 (i : Int)), (8, .int .u32 (x : Int)), (9, .int .u32 (y : Int))] [] (Sub.cons (rfl) (Sub.cons (rfl) (Sub.cons (rfl) (Sub.cons (rfl) (Sub.cons (rfl) (Sub.cons (rfl) (Sub.cons (rfl) (Sub.nil)))))))) (Sub.nil) (Sub.cons (rfl) (Sub.cons (rfl) (Sub.cons (rfl) (Sub.cons (rfl) (Sub.cons (rfl) (Sub.cons (rfl) (Sub.cons (rfl) (Sub.nil)))))))) (by kernel_rfl) rfl rfl rfl (And.intro (fun _ _ _ h _ => h) (And.intro (fun _ _ _ h _ => h) (And.intro (fun _ _ _ h _ => h) (And.intro (fun _ _ _ h _ => h) (And.intro (fun _ _ _ h _ => h) (And.intro (fun _ _ _ h _ => h) (And.intro (fun _ _ _ h _ => h) (And.intro (fun _ _ _ h _ => h) (And.intro (fun _ _ _ h _ => h) (And.intro (fun _ _ _ h _ => h) (And.intro (fun _ _ _ h _ => h) (And.intro (fun _ _ _ h _ => h) (And.intro (fun _ _ _ h _ => h) (And.intro (fun _ _ _ h _ => h) (And.intro (fun _ _ _ h _ => h) (And.intro (fun _ _ _ h _ => h) (And.intro (fun _ _ _ h _ => h) (And.intro (fun _ _ _ h _ => h) (And.intro (fun _ _ _ h _ => h) (And.intro (fun _ _ _ h _ => h) (And.intro (fun _ _ _ h _ => h) (And.intro (fun _ _ _ h _ => h) (And.intro (fun _ _ _ h _ => h) (And.intro (fun _ _ _ h _ => h) (And.intro (fun _ _ _ h _ => h) (And.intro (fun _ _ _ h _ => h) (And.intro (fun _ _ _ h _ => h) (And.intro (fun _ _ _ h _ => h) (And.intro (fun _ _ _ h _ => h) (trivial)))))))))))))))))))))))))))))) ?_ ?_
    · refine And.intro ?_ ?_
      · intro L_ w7 hX_ hs_ hf_ hd_
        refine W.step [(7, _)] (Sub.cons (hs_ _ _ rfl) (Sub.refl _)) ?_
        refine W.move rfl rfl ?_
        refine W.nil ?_
        exact At.step (Ext.refl _) rfl
      refine And.intro ?_ ?_
      · intro L_ w7 hX_ hs_ hf_ hd_
        refine W.step [(7, _)] (Sub.cons (hs_ _ _ rfl) (Sub.refl _)) ?_
        refine W.move rfl rfl ?_
        refine W.nil ?_
        exact At.step (Ext.refl _) rfl
      refine And.intro ?_ ?_
      · intro L_ w7 hX_ hs_ hf_ hd_
        obtain ⟨v1, e1, r1⟩ := hd_ 1 rfl
        obtain rfl : (.int .i64 (i : Int) : Value) = v1 := Eq.symm r1
        refine W.step [(31, _)] (Sub.cons (e1 _ rfl) (Sub.refl _)) ?_
        first | refine W.subI rfl rfl (by omega) rfl ?_ | refine W.subW rfl rfl rfl ?_
        rw [show (i : Int) - 16 = ((i - 16 : Nat) : Int) by omega]
        refine W.nil ?_
        exact At.step (Ext.refl _) rfl
      refine And.intro ?_ ?_
      · intro L_ w7 hX_ hs_ hf_ hd_
        obtain ⟨v2, e2, r2⟩ := hd_ 2 rfl
        obtain rfl : (.int .i64 ((i - 16 : Nat) : Int) : Value) = v2 := Eq.symm r2
        refine W.step [(4, _), (32, _)] (Sub.cons (hs_ _ _ rfl) (Sub.cons (e2 _ rfl) (Sub.refl _))) ?_
        refine W.indexA1 Words.X32 Try.underlying91 rfl rfl (by first | omega | decide) rfl ?_
        refine W.nil ?_
        exact At.step (Ext.refl _) rfl
      refine And.intro ?_ ?_
      · intro L_ w7 hX_ hs_ hf_ hd_
        obtain ⟨v3, e3, r3⟩ := hd_ 3 rfl
        obtain rfl : (.pointer (some ⟨g4, (i - 16 : Nat), none⟩) : Value) = v3 := Eq.symm r3
        refine W.step [(33, _)] (Sub.cons (e3 _ rfl) (Sub.refl _)) ?_
        rw [hp]
        refine W.loadB rfl Try.underlying84 rfl (hB4.ext hX_) (part64_get (by omega)) rfl ?_
        refine W.nil ?_
        exact At.step (Ext.refl _) rfl
      refine And.intro ?_ ?_
      · intro L_ w7 hX_ hs_ hf_ hd_
        refine W.step [(7, _)] (Sub.cons (hs_ _ _ rfl) (Sub.refl _)) ?_
        refine W.move rfl rfl ?_
        refine W.nil ?_
        exact At.step (Ext.refl _) rfl
      refine And.intro ?_ ?_
      · intro L_ w7 hX_ hs_ hf_ hd_
        obtain ⟨v5, e5, r5⟩ := hd_ 5 rfl
        obtain rfl : (.int .i64 (i : Int) : Value) = v5 := Eq.symm r5
        refine W.step [(35, _)] (Sub.cons (e5 _ rfl) (Sub.refl _)) ?_
        first | refine W.subI rfl rfl (by omega) rfl ?_ | refine W.subW rfl rfl rfl ?_
        rw [show (i : Int) - 7 = ((i - 7 : Nat) : Int) by omega]
        refine W.nil ?_
        exact At.step (Ext.refl _) rfl
      refine And.intro ?_ ?_
      · intro L_ w7 hX_ hs_ hf_ hd_
        obtain ⟨v6, e6, r6⟩ := hd_ 6 rfl
        obtain rfl : (.int .i64 ((i - 7 : Nat) : Int) : Value) = v6 := Eq.symm r6
        refine W.step [(4, _), (36, _)] (Sub.cons (hs_ _ _ rfl) (Sub.cons (e6 _ rfl) (Sub.refl _))) ?_
        refine W.indexA1 Words.X32 Try.underlying91 rfl rfl (by first | omega | decide) rfl ?_
        refine W.nil ?_
        exact At.step (Ext.refl _) rfl
      refine And.intro ?_ ?_
      · intro L_ w7 hX_ hs_ hf_ hd_
        obtain ⟨v7, e7, r7⟩ := hd_ 7 rfl
        obtain rfl : (.pointer (some ⟨g4, (i - 7 : Nat), none⟩) : Value) = v7 := Eq.symm r7
        refine W.step [(37, _)] (Sub.cons (e7 _ rfl) (Sub.refl _)) ?_
        rw [hq]
        refine W.loadB rfl Try.underlying84 rfl (hB4.ext hX_) (part64_get (by omega)) rfl ?_
        refine W.nil ?_
        exact At.step (Ext.refl _) rfl
      refine And.intro ?_ ?_
      · intro L_ w7 hX_ hs_ hf_ hd_
        obtain ⟨v4, e4, r4⟩ := hd_ 4 rfl
        obtain rfl : (.int .u32 (p : Int) : Value) = v4 := Eq.symm r4
        obtain ⟨v8, e8, r8⟩ := hd_ 8 rfl
        obtain rfl : (.int .u32 (q : Int) : Value) = v8 := Eq.symm r8
        refine W.step [(34, _), (38, _)] (Sub.cons (e4 _ rfl) (Sub.cons (e8 _ rfl) (Sub.refl _))) ?_
        refine W.addU (M := 4294967296) rfl rfl rfl rfl rfl ?_
        refine W.nil ?_
        exact At.step (Ext.refl _) rfl
      refine And.intro ?_ ?_
      · intro L_ w7 hX_ hs_ hf_ hd_
        refine W.step [(8, _)] (Sub.cons (hs_ _ _ rfl) (Sub.refl _)) ?_
        refine W.move rfl rfl ?_
        refine W.nil ?_
        exact At.step (Ext.refl _) rfl
      refine And.intro ?_ ?_
      · intro L_ w7 hX_ hs_ hf_ hd_
        obtain ⟨v10, e10, r10⟩ := hd_ 10 rfl
        obtain rfl : (.int .u32 (x : Int) : Value) = v10 := Eq.symm r10
        refine W.step [(40, _)] (Sub.cons (e10 _ rfl) (Sub.refl _)) ?_
        refine W.call Try.call91 rfl (turn_ok _ _ _ (by first | assumption | (apply Lt32.get; assumption))) rfl ?_
        rintro v w' ⟨rfl, rfl⟩
        refine W.nil ?_
        exact At.step (Ext.refl _) rfl
      refine And.intro ?_ ?_
      · intro L_ w7 hX_ hs_ hf_ hd_
        refine W.step [(8, _)] (Sub.cons (hs_ _ _ rfl) (Sub.refl _)) ?_
        refine W.move rfl rfl ?_
        refine W.nil ?_
        exact At.step (Ext.refl _) rfl
      refine And.intro ?_ ?_
      · intro L_ w7 hX_ hs_ hf_ hd_
        obtain ⟨v12, e12, r12⟩ := hd_ 12 rfl
        obtain rfl : (.int .u32 (x : Int) : Value) = v12 := Eq.symm r12
        refine W.step [(42, _)] (Sub.cons (e12 _ rfl) (Sub.refl _)) ?_
        refine W.call Try.call91 rfl (turn_ok _ _ _ (by first | assumption | (apply Lt32.get; assumption))) rfl ?_
        rintro v w' ⟨rfl, rfl⟩
        refine W.nil ?_
        exact At.step (Ext.refl _) rfl
      refine And.intro ?_ ?_
      · intro L_ w7 hX_ hs_ hf_ hd_
        obtain ⟨v11, e11, r11⟩ := hd_ 11 rfl
        obtain rfl : (.int .u32 ((rotV x 7 : Nat) : Int) : Value) = v11 := Eq.symm r11
        obtain ⟨v13, e13, r13⟩ := hd_ 13 rfl
        obtain rfl : (.int .u32 ((rotV x 18 : Nat) : Int) : Value) = v13 := Eq.symm r13
        refine W.step [(41, _), (43, _)] (Sub.cons (e11 _ rfl) (Sub.cons (e13 _ rfl) (Sub.refl _))) ?_
        refine W.xorU (M := 4294967296) rfl rfl rfl rfl rfl ?_
        refine W.nil ?_
        exact At.step (Ext.refl _) rfl
      refine And.intro ?_ ?_
      · intro L_ w7 hX_ hs_ hf_ hd_
        refine W.step [(8, _)] (Sub.cons (hs_ _ _ rfl) (Sub.refl _)) ?_
        refine W.move rfl rfl ?_
        refine W.nil ?_
        exact At.step (Ext.refl _) rfl
      refine And.intro ?_ ?_
      · intro L_ w7 hX_ hs_ hf_ hd_
        obtain ⟨v15, e15, r15⟩ := hd_ 15 rfl
        obtain rfl : (.int .u32 (x : Int) : Value) = v15 := Eq.symm r15
        refine W.step [(45, _)] (Sub.cons (e15 _ rfl) (Sub.refl _)) ?_
        refine W.shrU (B := 32) (s := 3) rfl rfl rfl rfl ?_
        refine W.nil ?_
        exact At.step (Ext.refl _) rfl
      refine And.intro ?_ ?_
      · intro L_ w7 hX_ hs_ hf_ hd_
        obtain ⟨v14, e14, r14⟩ := hd_ 14 rfl
        obtain rfl : (.int .u32 ((xorM 4294967296 (rotV x 7) (rotV x 18) : Nat) : Int) : Value) = v14 := Eq.symm r14
        obtain ⟨v16, e16, r16⟩ := hd_ 16 rfl
        obtain rfl : (.int .u32 ((shrM 32 x 3 : Nat) : Int) : Value) = v16 := Eq.symm r16
        refine W.step [(44, _), (46, _)] (Sub.cons (e14 _ rfl) (Sub.cons (e16 _ rfl) (Sub.refl _))) ?_
        refine W.xorU (M := 4294967296) rfl rfl rfl rfl rfl ?_
        refine W.nil ?_
        exact At.step (Ext.refl _) rfl
      refine And.intro ?_ ?_
      · intro L_ w7 hX_ hs_ hf_ hd_
        obtain ⟨v9, e9, r9⟩ := hd_ 9 rfl
        obtain rfl : (.int .u32 ((addM 4294967296 p q : Nat) : Int) : Value) = v9 := Eq.symm r9
        obtain ⟨v17, e17, r17⟩ := hd_ 17 rfl
        obtain rfl : (.int .u32 ((xorM 4294967296 (xorM 4294967296 (rotV x 7) (rotV x 18)) (shrM 32 x 3) : Nat) : Int) : Value) = v17 := Eq.symm r17
        refine W.step [(39, _), (47, _)] (Sub.cons (e9 _ rfl) (Sub.cons (e17 _ rfl) (Sub.refl _))) ?_
        refine W.addU (M := 4294967296) rfl rfl rfl rfl rfl ?_
        refine W.nil ?_
        exact At.step (Ext.refl _) rfl
      refine And.intro ?_ ?_
      · intro L_ w7 hX_ hs_ hf_ hd_
        refine W.step [(9, _)] (Sub.cons (hs_ _ _ rfl) (Sub.refl _)) ?_
        refine W.move rfl rfl ?_
        refine W.nil ?_
        exact At.step (Ext.refl _) rfl
      refine And.intro ?_ ?_
      · intro L_ w7 hX_ hs_ hf_ hd_
        obtain ⟨v19, e19, r19⟩ := hd_ 19 rfl
        obtain rfl : (.int .u32 (y : Int) : Value) = v19 := Eq.symm r19
        refine W.step [(49, _)] (Sub.cons (e19 _ rfl) (Sub.refl _)) ?_
        refine W.call Try.call91 rfl (turn_ok _ _ _ (by first | assumption | (apply Lt32.get; assumption))) rfl ?_
        rintro v w' ⟨rfl, rfl⟩
        refine W.nil ?_
        exact At.step (Ext.refl _) rfl
      refine And.intro ?_ ?_
      · intro L_ w7 hX_ hs_ hf_ hd_
        refine W.step [(9, _)] (Sub.cons (hs_ _ _ rfl) (Sub.refl _)) ?_
        refine W.move rfl rfl ?_
        refine W.nil ?_
        exact At.step (Ext.refl _) rfl
      refine And.intro ?_ ?_
      · intro L_ w7 hX_ hs_ hf_ hd_
        obtain ⟨v21, e21, r21⟩ := hd_ 21 rfl
        obtain rfl : (.int .u32 (y : Int) : Value) = v21 := Eq.symm r21
        refine W.step [(51, _)] (Sub.cons (e21 _ rfl) (Sub.refl _)) ?_
        refine W.call Try.call91 rfl (turn_ok _ _ _ (by first | assumption | (apply Lt32.get; assumption))) rfl ?_
        rintro v w' ⟨rfl, rfl⟩
        refine W.nil ?_
        exact At.step (Ext.refl _) rfl
      refine And.intro ?_ ?_
      · intro L_ w7 hX_ hs_ hf_ hd_
        obtain ⟨v20, e20, r20⟩ := hd_ 20 rfl
        obtain rfl : (.int .u32 ((rotV y 17 : Nat) : Int) : Value) = v20 := Eq.symm r20
        obtain ⟨v22, e22, r22⟩ := hd_ 22 rfl
        obtain rfl : (.int .u32 ((rotV y 19 : Nat) : Int) : Value) = v22 := Eq.symm r22
        refine W.step [(50, _), (52, _)] (Sub.cons (e20 _ rfl) (Sub.cons (e22 _ rfl) (Sub.refl _))) ?_
        refine W.xorU (M := 4294967296) rfl rfl rfl rfl rfl ?_
        refine W.nil ?_
        exact At.step (Ext.refl _) rfl
      refine And.intro ?_ ?_
      · intro L_ w7 hX_ hs_ hf_ hd_
        refine W.step [(9, _)] (Sub.cons (hs_ _ _ rfl) (Sub.refl _)) ?_
        refine W.move rfl rfl ?_
        refine W.nil ?_
        exact At.step (Ext.refl _) rfl
      refine And.intro ?_ ?_
      · intro L_ w7 hX_ hs_ hf_ hd_
        obtain ⟨v24, e24, r24⟩ := hd_ 24 rfl
        obtain rfl : (.int .u32 (y : Int) : Value) = v24 := Eq.symm r24
        refine W.step [(54, _)] (Sub.cons (e24 _ rfl) (Sub.refl _)) ?_
        refine W.shrU (B := 32) (s := 10) rfl rfl rfl rfl ?_
        refine W.nil ?_
        exact At.step (Ext.refl _) rfl
      refine And.intro ?_ ?_
      · intro L_ w7 hX_ hs_ hf_ hd_
        obtain ⟨v23, e23, r23⟩ := hd_ 23 rfl
        obtain rfl : (.int .u32 ((xorM 4294967296 (rotV y 17) (rotV y 19) : Nat) : Int) : Value) = v23 := Eq.symm r23
        obtain ⟨v25, e25, r25⟩ := hd_ 25 rfl
        obtain rfl : (.int .u32 ((shrM 32 y 10 : Nat) : Int) : Value) = v25 := Eq.symm r25
        refine W.step [(53, _), (55, _)] (Sub.cons (e23 _ rfl) (Sub.cons (e25 _ rfl) (Sub.refl _))) ?_
        refine W.xorU (M := 4294967296) rfl rfl rfl rfl rfl ?_
        refine W.nil ?_
        exact At.step (Ext.refl _) rfl
      refine And.intro ?_ ?_
      · intro L_ w7 hX_ hs_ hf_ hd_
        obtain ⟨v18, e18, r18⟩ := hd_ 18 rfl
        obtain rfl : (.int .u32 ((addM 4294967296 (addM 4294967296 p q) (xorM 4294967296 (xorM 4294967296 (rotV x 7) (rotV x 18)) (shrM 32 x 3)) : Nat) : Int) : Value) = v18 := Eq.symm r18
        obtain ⟨v26, e26, r26⟩ := hd_ 26 rfl
        obtain rfl : (.int .u32 ((xorM 4294967296 (xorM 4294967296 (rotV y 17) (rotV y 19)) (shrM 32 y 10) : Nat) : Int) : Value) = v26 := Eq.symm r26
        refine W.step [(48, _), (56, _)] (Sub.cons (e18 _ rfl) (Sub.cons (e26 _ rfl) (Sub.refl _))) ?_
        refine W.addU (M := 4294967296) rfl rfl rfl rfl rfl ?_
        refine W.nil ?_
        exact At.step (Ext.refl _) (by show Value.int _ _ = Value.int _ _; rw [addM_swap]; rfl)
      refine And.intro ?_ ?_
      · intro L_ w7 hX_ hs_ hf_ hd_
        obtain ⟨v0, e0, r0⟩ := hd_ 0 rfl
        obtain rfl : (.int .i64 (i : Int) : Value) = v0 := Eq.symm r0
        refine W.step [(4, _), (30, _)] (Sub.cons (hs_ _ _ rfl) (Sub.cons (e0 _ rfl) (Sub.refl _))) ?_
        refine W.indexA1 Words.X32 Try.underlying91 rfl rfl (by first | omega | decide) rfl ?_
        refine W.nil ?_
        exact At.step (Ext.refl _) rfl
      exact trivial
    · intro L_ w7 hX6 hs_ hv_
      obtain ⟨v28, e28, r28⟩ := hv_ 28 (by decide)
      obtain rfl : (.pointer (some ⟨g4, i, none⟩) : Value) = v28 := Eq.symm r28
      obtain ⟨v27, e27, r27⟩ := hv_ 27 (by decide)
      obtain rfl : (.int .u32 ((nextW p x q y : Nat) : Int) : Value) = v27 := Eq.symm r27
      refine W.weaken (l' := [(58, _), (57, _), (2, _), (3, _), (4, _), (6, _), (7, _), (8, _), (9, _)]) (Sub.cons (e28 _ rfl) (Sub.cons (e27 _ rfl) (Sub.cons (hs_ _ _ rfl) (Sub.cons (hs_ _ _ rfl) (Sub.cons (hs_ _ _ rfl) (Sub.cons (hs_ _ _ rfl) (Sub.cons (hs_ _ _ rfl) (Sub.cons (hs_ _ _ rfl) (Sub.cons (hs_ _ _ rfl) (Sub.nil)))))))))) ?_
      refine W.store1 rfl rfl rfl (hB4.ext hX6) (by rw [part64_length (by omega)]; omega) (by kernel_rfl) ?_
      intro w9 hc9 hB9
      have hB9' : Bk w9 g4 (part64 (sch ws (i + 1))) := by
        have := part64_set (l := sch ws i) (by omega) (nextW p x q y)
        rw [hlen] at this
        rw [sch_high ws (by omega), ← hx, ← hy, ← hp, ← hq, ← this]
        exact hB9
      refine W.nil ?_
      refine At.blockNormal ?_
      refine At.thenCode ?_
      refine C.region ?_
      refine W.move rfl rfl ?_
      first | refine W.addI rfl rfl (by omega) rfl ?_ | refine W.addW rfl rfl rfl ?_
      refine W.assign rfl rfl ?_
      refine W.nil ?_
      refine At.thenRound (i + 1) (Sub.cons (rfl) (Sub.cons (rfl) (Sub.cons (rfl) (Sub.cons (rfl) (Sub.cons (look_eq rfl (by rw [show (i : Int) + 1 = ((i + 1 : Nat) : Int) by omega])) (Sub.nil)))))) (show Ext w _ ∧ 16 ≤ (i + 1) ∧ (i + 1) ≤ 64 ∧ Bk _ g3 (hs.map u32V) ∧ Bk _ g4 (part64 (sch ws (i + 1))) ∧ Bk _ g6 (List.replicate 8 (u32V 0)) from ?_) (show 64 - (i + 1) < 64 - i from ?_)
      · exact ⟨(hX1.ext hX6).news hc9 (fun k hk => Or.inr (by omega)), by omega, by omega, (hB3.ext hX6).chg hc9 (by omega), hB9', (hB6.ext hX6).chg hc9 (by omega)⟩
      · omega
  · obtain rfl : i = 64 := by omega
    rw [part64_full (sch_length ws 64)] at hB4
    obtain ⟨U, hU⟩ : ∃ U, U = sch ws 64 := ⟨_, rfl⟩
    have hUl : U.length = 64 := by rw [hU, sch_length]
    rw [← hU] at hB4 ⊢
    refine C.exit ?_
    refine At.thenExit ?_
    refine At.thenExit ?_
    refine At.blockSelf ?_
    refine At.thenCode ?_
    refine C.seq ?_
    refine C.region ?_
    refine W.loadA rfl (hB3.cells (o := 0)) Try.underlying88 rfl (by rw [List.drop_zero, List.length_map, hh]; kernel_rfl) rfl ?_
    refine W.alloc (z := .agg (List.replicate 8 (u32V 0)).toArray) (List.replicate 8 (u32V 0)) (by kernel_rfl) rfl rfl ?_
    intro g10 w10 hg10 hX10 hB10
    have hn10 : g3 ≠ g10 ∧ g4 ≠ g10 ∧ g6 ≠ g10 ∧ w.heap.size ≤ g10 := by have := hX1.size; have := hB3.lt; have := hB4.lt; have := hB6.lt; omega
    refine W.storeA (hs.map u32V) rfl rfl hB10 (by rw [List.length_map, hh]; rfl) (by rw [List.length_map, hh]; kernel_rfl) (u32_oneCell _) ?_
    intro w11 hc11 hB10
    have hX11 : Ext w w11 := (hX1.ext hX10).news hc11 (fun k hk => Or.inr (by omega))
    have hB3 := (hB3.ext hX10).chg hc11 (by omega)
    have hB4 := (hB4.ext hX10).chg hc11 (by omega)
    have hB6 := (hB6.ext hX10).chg hc11 (by omega)
    refine W.nil ?_
    refine At.thenCode ?_
    refine C.seq ?_
    refine C.seq ?_
    refine C.region ?_
    refine W.assign rfl rfl ?_
    refine W.nil ?_
    refine At.thenCode ?_
    refine C.block ?_
    refine C.loop (X := Nat) (fun x_ => [(2, .slice ao 64 cp), (3, .pointer (some ⟨g3, 0, none⟩)), (4, .pointer (some ⟨g4, 0, none⟩)), (6, .pointer (some ⟨g6, 0, none⟩)), (10, .pointer (some ⟨g10, 0, none⟩)), (11, .int .i64 (x_ : Int))]) (fun x_ w2 => Ext w w2 ∧ x_ ≤ 64 ∧ Bk w2 g3 (hs.map u32V) ∧ Bk w2 g4 (U.map u32V) ∧ Bk w2 g6 (List.replicate 8 (u32V 0)) ∧ Bk w2 g10 ((rnd hs K U x_).map u32V)) (fun x_ => 64 - x_) (0) (Sub.cons (rfl) (Sub.cons (rfl) (Sub.cons (rfl) (Sub.cons (rfl) (Sub.cons (rfl) (Sub.cons (rfl) (Sub.nil))))))) ?start2 ?_
    case start2 =>
      show Ext w _ ∧ (0) ≤ 64 ∧ Bk _ g3 (hs.map u32V) ∧ Bk _ g4 (U.map u32V) ∧ Bk _ g6 (List.replicate 8 (u32V 0)) ∧ Bk _ g10 ((rnd hs K U (0)).map u32V)
      exact ⟨hX11, by omega, hB3, hB4, hB6, hB10⟩
    rintro i w2 hI_
    replace hI_ : Ext w w2 ∧ i ≤ 64 ∧ Bk w2 g3 (hs.map u32V) ∧ Bk w2 g4 (U.map u32V) ∧ Bk w2 g6 (List.replicate 8 (u32V 0)) ∧ Bk w2 g10 ((rnd hs K U i).map u32V) := hI_
    obtain ⟨hX2, hi, hB3, hB4, hB6, hB10⟩ := hI_
    refine C.weaken (l' := [(2, .slice ao 64 cp), (3, .pointer (some ⟨g3, 0, none⟩)), (4, .pointer (some ⟨g4, 0, none⟩)), (6, .pointer (some ⟨g6, 0, none⟩)), (10, .pointer (some ⟨g10, 0, none⟩)), (11, .int .i64 (i : Int))]) (Sub.cons (rfl) (Sub.cons (rfl) (Sub.cons (rfl) (Sub.cons (rfl) (Sub.cons (rfl) (Sub.cons (rfl) (Sub.nil))))))) ?_
    refine C.seq ?_
    refine C.seq ?_
    refine C.region ?_
    refine W.move rfl rfl ?_
    refine W.lssI rfl rfl rfl ?_
    refine W.nil ?_
    refine At.thenCode ?_
    first | refine C.condD rfl (fun c61 => ?_) (fun c61 => ?_) | refine C.cond rfl (fun c61 => ?_) (fun c61 => ?_)
    · have hrl := rnd_lt hh hhl K U i
      have hr1 : rnd hs K U (i + 1) = stepL (rnd hs K U i) (addM 4294967296 (K.getD i 0) (U.getD i 0)) := rfl
      obtain ⟨a, b, c, d, e, f, g, h, hr⟩ := eight (rnd_length hh K U i)
      rw [hr] at hB10 hrl hr1
      have ha : a < 4294967296 := hrl a (by simp)
      have he : e < 4294967296 := hrl e (by simp)
      obtain ⟨Ki, hKi⟩ : ∃ x, x = K.getD i 0 := ⟨_, rfl⟩
      obtain ⟨Ui, hUi⟩ : ∃ x, x = U.getD i 0 := ⟨_, rfl⟩
      rw [← hKi, ← hUi] at hr1
      have hE : oneV e f g h (addM 4294967296 Ki Ui) = addM 4294967296 (addM 4294967296 (addM 4294967296 (addM 4294967296 h (xorM 4294967296 (xorM 4294967296 (rotV e 6) (rotV e 11)) (rotV e 25))) (xorM 4294967296 (landM 4294967296 e f) (landM 4294967296 (notM 4294967296 e) g))) Ki) Ui := by
        unfold oneV; rw [addM_assoc _ Ki Ui]
      refine C.skip ?_
      refine At.thenCode ?_
      refine C.seq ?_
      refine C.block ?_
      refine C.seq ?_
      refine C.region ?_
      refine W.indexA1 (j := 4) Words.X32 Try.underlying88 rfl rfl (by first | omega | decide) rfl ?_
      refine W.loadB rfl Try.underlying84 rfl (by assumption) rfl rfl ?_
      refine W.indexA1 (j := 5) Words.X32 Try.underlying88 rfl rfl (by first | omega | decide) rfl ?_
      refine W.loadB rfl Try.underlying84 rfl (by assumption) rfl rfl ?_
      refine W.andU (M := 4294967296) rfl rfl rfl rfl rfl ?_
      refine W.indexA1 (j := 4) Words.X32 Try.underlying88 rfl rfl (by first | omega | decide) rfl ?_
      refine W.loadB rfl Try.underlying84 rfl (by assumption) rfl rfl ?_
      refine W.notU (M := 4294967296) rfl rfl rfl rfl ?_
      refine W.indexA1 (j := 6) Words.X32 Try.underlying88 rfl rfl (by first | omega | decide) rfl ?_
      refine W.loadB rfl Try.underlying84 rfl (by assumption) rfl rfl ?_
      refine W.andU (M := 4294967296) rfl rfl rfl rfl rfl ?_
      refine W.xorU (M := 4294967296) rfl rfl rfl rfl rfl ?_
      refine W.assign rfl rfl ?_
      refine W.nil ?_
      refine At.thenCode ?_
      refine C.seq ?_
      refine C.region ?_
      refine W.indexA1 (j := 0) Words.X32 Try.underlying88 rfl rfl (by first | omega | decide) rfl ?_
      refine W.loadB rfl Try.underlying84 rfl (by assumption) rfl rfl ?_
      refine W.indexA1 (j := 1) Words.X32 Try.underlying88 rfl rfl (by first | omega | decide) rfl ?_
      refine W.loadB rfl Try.underlying84 rfl (by assumption) rfl rfl ?_
      refine W.andU (M := 4294967296) rfl rfl rfl rfl rfl ?_
      refine W.indexA1 (j := 0) Words.X32 Try.underlying88 rfl rfl (by first | omega | decide) rfl ?_
      refine W.loadB rfl Try.underlying84 rfl (by assumption) rfl rfl ?_
      refine W.indexA1 (j := 2) Words.X32 Try.underlying88 rfl rfl (by first | omega | decide) rfl ?_
      refine W.loadB rfl Try.underlying84 rfl (by assumption) rfl rfl ?_
      refine W.andU (M := 4294967296) rfl rfl rfl rfl rfl ?_
      refine W.xorU (M := 4294967296) rfl rfl rfl rfl rfl ?_
      refine W.indexA1 (j := 1) Words.X32 Try.underlying88 rfl rfl (by first | omega | decide) rfl ?_
      refine W.loadB rfl Try.underlying84 rfl (by assumption) rfl rfl ?_
      refine W.indexA1 (j := 2) Words.X32 Try.underlying88 rfl rfl (by first | omega | decide) rfl ?_
      refine W.loadB rfl Try.underlying84 rfl (by assumption) rfl rfl ?_
      refine W.andU (M := 4294967296) rfl rfl rfl rfl rfl ?_
      refine W.xorU (M := 4294967296) rfl rfl rfl rfl rfl ?_
      refine W.assign rfl rfl ?_
      refine W.nil ?_
      refine At.thenCode ?_
      refine C.seq ?_
      refine C.regionAny 26 ((fun v w => v = .pointer (some ⟨g10, 7, none⟩)) :: (fun v w => v = .int .u32 (h : Int)) :: (fun v w => v = .pointer (some ⟨g10, 4, none⟩)) :: (fun v w => v = .int .u32 (e : Int)) :: (fun v w => v = .int .u32 ((rotV e 6 : Nat) : Int)) :: (fun v w => v = .pointer (some ⟨g10, 4, none⟩)) :: (fun v w => v = .int .u32 (e : Int)) :: (fun v w => v = .int .u32 ((rotV e 11 : Nat) : Int)) :: (fun v w => v = .int .u32 ((xorM 4294967296 (rotV e 6) (rotV e 11) : Nat) : Int)) :: (fun v w => v = .pointer (some ⟨g10, 4, none⟩)) :: (fun v w => v = .int .u32 (e : Int)) :: (fun v w => v = .int .u32 ((rotV e 25 : Nat) : Int)) :: (fun v w => v = .int .u32 ((xorM 4294967296 (xorM 4294967296 (rotV e 6) (rotV e 11)) (rotV e 25) : Nat) : Int)) :: (fun v w => v = .int .u32 ((addM 4294967296 h (xorM 4294967296 (xorM 4294967296 (rotV e 6) (rotV e 11)) (rotV e 25)) : Nat) : Int)) :: (fun v w => v = .int .u32 ((xorM 4294967296 (landM 4294967296 e f) (landM 4294967296 (notM 4294967296 e) g) : Nat) : Int)) :: (fun v w => v = .int .u32 ((addM 4294967296 (addM 4294967296 h (xorM 4294967296 (xorM 4294967296 (rotV e 6) (rotV e 11)) (rotV e 25))) (xorM 4294967296 (landM 4294967296 e f) (landM 4294967296 (notM 4294967296 e) g)) : Nat) : Int)) :: (fun v w => v = .slice ao 64 cp) :: (fun v w => v = .int .i64 (i : Int)) :: (fun v w => ∃ ad, v = .pointer (some ad) ∧ Cells w ad ((K.map u32V).drop i)) :: (fun v w => v = .int .u32 (Ki : Int)) :: (fun v w => v = .int .u32 ((addM 4294967296 (addM 4294967296 (addM 4294967296 h (xorM 4294967296 (xorM 4294967296 (rotV e 6) (rotV e 11)) (rotV e 25))) (xorM 4294967296 (landM 4294967296 e f) (landM 4294967296 (notM 4294967296 e) g))) Ki : Nat) : Int)) :: (fun v w => v = .int .i64 (i : Int)) :: (fun v w => v = .pointer (some ⟨g4, i, none⟩)) :: (fun v w => v = .int .u32 (Ui : Int)) :: (fun v w => v = .int .u32 ((oneV e f g h (addM 4294967296 Ki Ui) : Nat) : Int)) :: (fun v w => v = .int .u32 ((oneV e f g h (addM 4294967296 Ki Ui) : Nat) : Int)) :: []) [(2, .slice ao 64 cp), (3, .pointer (some ⟨g3, 0, none⟩)), (4, .pointer (some ⟨g4, 0, none⟩)), (6, .pointer (some ⟨g6, 0, none⟩)), (10, .pointer (some ⟨g10, 0, none⟩)), (11, .int .i64 (i : Int)), (12, .int .u32 ((xorM 4294967296 (landM 4294967296 e f) (landM 4294967296 (notM 4294967296 e) g) : Nat) : Int)), (13, .int .u32 ((xorM 4294967296 (xorM 4294967296 (landM 4294967296 a b) (landM 4294967296 a c)) (landM 4294967296 b c) : Nat) : Int))] [] (Sub.cons (rfl) (Sub.cons (rfl) (Sub.cons (rfl) (Sub.cons (rfl) (Sub.cons (rfl) (Sub.cons (rfl) (Sub.cons (rfl) (Sub.cons (rfl) (Sub.nil))))))))) (Sub.nil) (Sub.cons (rfl) (Sub.cons (rfl) (Sub.cons (rfl) (Sub.cons (rfl) (Sub.cons (rfl) (Sub.cons (rfl) (Sub.cons (rfl) (Sub.cons (rfl) (Sub.nil))))))))) (by kernel_rfl) rfl rfl rfl (And.intro (fun _ _ _ h _ => h) (And.intro (fun _ _ _ h _ => h) (And.intro (fun _ _ _ h _ => h) (And.intro (fun _ _ _ h _ => h) (And.intro (fun _ _ _ h _ => h) (And.intro (fun _ _ _ h _ => h) (And.intro (fun _ _ _ h _ => h) (And.intro (fun _ _ _ h _ => h) (And.intro (fun _ _ _ h _ => h) (And.intro (fun _ _ _ h _ => h) (And.intro (fun _ _ _ h _ => h) (And.intro (fun _ _ _ h _ => h) (And.intro (fun _ _ _ h _ => h) (And.intro (fun _ _ _ h _ => h) (And.intro (fun _ _ _ h _ => h) (And.intro (fun _ _ _ h _ => h) (And.intro (fun _ _ _ h _ => h) (And.intro (fun _ _ _ h _ => h) (And.intro (fun _ _ _ ⟨ad, e, h⟩ g => ⟨ad, e, h.chg g (fun c => c)⟩) (And.intro (fun _ _ _ h _ => h) (And.intro (fun _ _ _ h _ => h) (And.intro (fun _ _ _ h _ => h) (And.intro (fun _ _ _ h _ => h) (And.intro (fun _ _ _ h _ => h) (And.intro (fun _ _ _ h _ => h) (And.intro (fun _ _ _ h _ => h) (trivial))))))))))))))))))))))))))) ?_ ?_
      · refine And.intro ?_ ?_
        · intro L_ w13 hX_ hs_ hf_ hd_
          refine W.step [(10, _)] (Sub.cons (hs_ _ _ rfl) (Sub.refl _)) ?_
          refine W.indexA1 (j := 7) Words.X32 Try.underlying88 rfl rfl (by first | omega | decide) rfl ?_
          refine W.nil ?_
          exact At.step (Ext.refl _) rfl
        refine And.intro ?_ ?_
        · intro L_ w13 hX_ hs_ hf_ hd_
          obtain ⟨v0, e0, r0⟩ := hd_ 0 rfl
          obtain rfl : (.pointer (some ⟨g10, 7, none⟩) : Value) = v0 := Eq.symm r0
          refine W.step [(93, _)] (Sub.cons (e0 _ rfl) (Sub.refl _)) ?_
          refine W.loadB rfl Try.underlying84 rfl (by first | exact Bk.ext (by assumption) hX_ | exact GP.bkOld hX_ (by assumption) (by omega) (by omega) | exact Bk.chg (by assumption) hX_.1 (by omega) | exact Bk.chg (by assumption) hX_ (by rintro ⟨q_, h1_, h2_, h3_⟩; omega)) rfl rfl ?_
          refine W.nil ?_
          exact At.step (Ext.refl _) rfl
        refine And.intro ?_ ?_
        · intro L_ w13 hX_ hs_ hf_ hd_
          refine W.step [(10, _)] (Sub.cons (hs_ _ _ rfl) (Sub.refl _)) ?_
          refine W.indexA1 (j := 4) Words.X32 Try.underlying88 rfl rfl (by first | omega | decide) rfl ?_
          refine W.nil ?_
          exact At.step (Ext.refl _) rfl
        refine And.intro ?_ ?_
        · intro L_ w13 hX_ hs_ hf_ hd_
          obtain ⟨v2, e2, r2⟩ := hd_ 2 rfl
          obtain rfl : (.pointer (some ⟨g10, 4, none⟩) : Value) = v2 := Eq.symm r2
          refine W.step [(95, _)] (Sub.cons (e2 _ rfl) (Sub.refl _)) ?_
          refine W.loadB rfl Try.underlying84 rfl (by first | exact Bk.ext (by assumption) hX_ | exact GP.bkOld hX_ (by assumption) (by omega) (by omega) | exact Bk.chg (by assumption) hX_.1 (by omega) | exact Bk.chg (by assumption) hX_ (by rintro ⟨q_, h1_, h2_, h3_⟩; omega)) rfl rfl ?_
          refine W.nil ?_
          exact At.step (Ext.refl _) rfl
        refine And.intro ?_ ?_
        · intro L_ w13 hX_ hs_ hf_ hd_
          obtain ⟨v3, e3, r3⟩ := hd_ 3 rfl
          obtain rfl : (.int .u32 (e : Int) : Value) = v3 := Eq.symm r3
          refine W.step [(96, _)] (Sub.cons (e3 _ rfl) (Sub.refl _)) ?_
          refine W.call Try.call91 rfl (turn_ok _ _ _ (by first | assumption | (apply Lt32.get; assumption))) rfl ?_
          rintro v w' ⟨rfl, rfl⟩
          refine W.nil ?_
          exact At.step (Ext.refl _) rfl
        refine And.intro ?_ ?_
        · intro L_ w13 hX_ hs_ hf_ hd_
          refine W.step [(10, _)] (Sub.cons (hs_ _ _ rfl) (Sub.refl _)) ?_
          refine W.indexA1 (j := 4) Words.X32 Try.underlying88 rfl rfl (by first | omega | decide) rfl ?_
          refine W.nil ?_
          exact At.step (Ext.refl _) rfl
        refine And.intro ?_ ?_
        · intro L_ w13 hX_ hs_ hf_ hd_
          obtain ⟨v5, e5, r5⟩ := hd_ 5 rfl
          obtain rfl : (.pointer (some ⟨g10, 4, none⟩) : Value) = v5 := Eq.symm r5
          refine W.step [(98, _)] (Sub.cons (e5 _ rfl) (Sub.refl _)) ?_
          refine W.loadB rfl Try.underlying84 rfl (by first | exact Bk.ext (by assumption) hX_ | exact GP.bkOld hX_ (by assumption) (by omega) (by omega) | exact Bk.chg (by assumption) hX_.1 (by omega) | exact Bk.chg (by assumption) hX_ (by rintro ⟨q_, h1_, h2_, h3_⟩; omega)) rfl rfl ?_
          refine W.nil ?_
          exact At.step (Ext.refl _) rfl
        refine And.intro ?_ ?_
        · intro L_ w13 hX_ hs_ hf_ hd_
          obtain ⟨v6, e6, r6⟩ := hd_ 6 rfl
          obtain rfl : (.int .u32 (e : Int) : Value) = v6 := Eq.symm r6
          refine W.step [(99, _)] (Sub.cons (e6 _ rfl) (Sub.refl _)) ?_
          refine W.call Try.call91 rfl (turn_ok _ _ _ (by first | assumption | (apply Lt32.get; assumption))) rfl ?_
          rintro v w' ⟨rfl, rfl⟩
          refine W.nil ?_
          exact At.step (Ext.refl _) rfl
        refine And.intro ?_ ?_
        · intro L_ w13 hX_ hs_ hf_ hd_
          obtain ⟨v4, e4, r4⟩ := hd_ 4 rfl
          obtain rfl : (.int .u32 ((rotV e 6 : Nat) : Int) : Value) = v4 := Eq.symm r4
          obtain ⟨v7, e7, r7⟩ := hd_ 7 rfl
          obtain rfl : (.int .u32 ((rotV e 11 : Nat) : Int) : Value) = v7 := Eq.symm r7
          refine W.step [(97, _), (100, _)] (Sub.cons (e4 _ rfl) (Sub.cons (e7 _ rfl) (Sub.refl _))) ?_
          refine W.xorU (M := 4294967296) rfl rfl rfl rfl rfl ?_
          refine W.nil ?_
          exact At.step (Ext.refl _) rfl
        refine And.intro ?_ ?_
        · intro L_ w13 hX_ hs_ hf_ hd_
          refine W.step [(10, _)] (Sub.cons (hs_ _ _ rfl) (Sub.refl _)) ?_
          refine W.indexA1 (j := 4) Words.X32 Try.underlying88 rfl rfl (by first | omega | decide) rfl ?_
          refine W.nil ?_
          exact At.step (Ext.refl _) rfl
        refine And.intro ?_ ?_
        · intro L_ w13 hX_ hs_ hf_ hd_
          obtain ⟨v9, e9, r9⟩ := hd_ 9 rfl
          obtain rfl : (.pointer (some ⟨g10, 4, none⟩) : Value) = v9 := Eq.symm r9
          refine W.step [(102, _)] (Sub.cons (e9 _ rfl) (Sub.refl _)) ?_
          refine W.loadB rfl Try.underlying84 rfl (by first | exact Bk.ext (by assumption) hX_ | exact GP.bkOld hX_ (by assumption) (by omega) (by omega) | exact Bk.chg (by assumption) hX_.1 (by omega) | exact Bk.chg (by assumption) hX_ (by rintro ⟨q_, h1_, h2_, h3_⟩; omega)) rfl rfl ?_
          refine W.nil ?_
          exact At.step (Ext.refl _) rfl
        refine And.intro ?_ ?_
        · intro L_ w13 hX_ hs_ hf_ hd_
          obtain ⟨v10, e10, r10⟩ := hd_ 10 rfl
          obtain rfl : (.int .u32 (e : Int) : Value) = v10 := Eq.symm r10
          refine W.step [(103, _)] (Sub.cons (e10 _ rfl) (Sub.refl _)) ?_
          refine W.call Try.call91 rfl (turn_ok _ _ _ (by first | assumption | (apply Lt32.get; assumption))) rfl ?_
          rintro v w' ⟨rfl, rfl⟩
          refine W.nil ?_
          exact At.step (Ext.refl _) rfl
        refine And.intro ?_ ?_
        · intro L_ w13 hX_ hs_ hf_ hd_
          obtain ⟨v8, e8, r8⟩ := hd_ 8 rfl
          obtain rfl : (.int .u32 ((xorM 4294967296 (rotV e 6) (rotV e 11) : Nat) : Int) : Value) = v8 := Eq.symm r8
          obtain ⟨v11, e11, r11⟩ := hd_ 11 rfl
          obtain rfl : (.int .u32 ((rotV e 25 : Nat) : Int) : Value) = v11 := Eq.symm r11
          refine W.step [(101, _), (104, _)] (Sub.cons (e8 _ rfl) (Sub.cons (e11 _ rfl) (Sub.refl _))) ?_
          refine W.xorU (M := 4294967296) rfl rfl rfl rfl rfl ?_
          refine W.nil ?_
          exact At.step (Ext.refl _) rfl
        refine And.intro ?_ ?_
        · intro L_ w13 hX_ hs_ hf_ hd_
          obtain ⟨v1, e1, r1⟩ := hd_ 1 rfl
          obtain rfl : (.int .u32 (h : Int) : Value) = v1 := Eq.symm r1
          obtain ⟨v12, e12, r12⟩ := hd_ 12 rfl
          obtain rfl : (.int .u32 ((xorM 4294967296 (xorM 4294967296 (rotV e 6) (rotV e 11)) (rotV e 25) : Nat) : Int) : Value) = v12 := Eq.symm r12
          refine W.step [(94, _), (105, _)] (Sub.cons (e1 _ rfl) (Sub.cons (e12 _ rfl) (Sub.refl _))) ?_
          refine W.addU (M := 4294967296) rfl rfl rfl rfl rfl ?_
          refine W.nil ?_
          exact At.step (Ext.refl _) rfl
        refine And.intro ?_ ?_
        · intro L_ w13 hX_ hs_ hf_ hd_
          refine W.step [(12, _)] (Sub.cons (hs_ _ _ rfl) (Sub.refl _)) ?_
          refine W.move rfl rfl ?_
          refine W.nil ?_
          exact At.step (Ext.refl _) rfl
        refine And.intro ?_ ?_
        · intro L_ w13 hX_ hs_ hf_ hd_
          obtain ⟨v13, e13, r13⟩ := hd_ 13 rfl
          obtain rfl : (.int .u32 ((addM 4294967296 h (xorM 4294967296 (xorM 4294967296 (rotV e 6) (rotV e 11)) (rotV e 25)) : Nat) : Int) : Value) = v13 := Eq.symm r13
          obtain ⟨v14, e14, r14⟩ := hd_ 14 rfl
          obtain rfl : (.int .u32 ((xorM 4294967296 (landM 4294967296 e f) (landM 4294967296 (notM 4294967296 e) g) : Nat) : Int) : Value) = v14 := Eq.symm r14
          refine W.step [(106, _), (107, _)] (Sub.cons (e13 _ rfl) (Sub.cons (e14 _ rfl) (Sub.refl _))) ?_
          refine W.addU (M := 4294967296) rfl rfl rfl rfl rfl ?_
          refine W.nil ?_
          exact At.step (Ext.refl _) rfl
        refine And.intro ?_ ?_
        · intro L_ w13 hX_ hs_ hf_ hd_
          refine W.step [(2, _)] (Sub.cons (hs_ _ _ rfl) (Sub.refl _)) ?_
          refine W.move rfl rfl ?_
          refine W.nil ?_
          exact At.step (Ext.refl _) rfl
        refine And.intro ?_ ?_
        · intro L_ w13 hX_ hs_ hf_ hd_
          refine W.step [(11, _)] (Sub.cons (hs_ _ _ rfl) (Sub.refl _)) ?_
          refine W.move rfl rfl ?_
          refine W.nil ?_
          exact At.step (Ext.refl _) rfl
        refine And.intro ?_ ?_
        · intro L_ w13 hX_ hs_ hf_ hd_
          obtain ⟨v16, e16, r16⟩ := hd_ 16 rfl
          obtain rfl : (.slice ao 64 cp : Value) = v16 := Eq.symm r16
          obtain ⟨v17, e17, r17⟩ := hd_ 17 rfl
          obtain rfl : (.int .i64 (i : Int) : Value) = v17 := Eq.symm r17
          refine W.step [(109, _), (110, _)] (Sub.cons (e16 _ rfl) (Sub.cons (e17 _ rfl) (Sub.refl _))) ?_
          refine W.indexS X32 Try.underlying87 rfl (hS.ext (hX2.ext hX_)) rfl (by omega) rfl ?_
          intro ad111 _ _ hc111
          rw [Int.toNat_natCast, Nat.mul_one] at hc111
          refine W.nil ?_
          exact At.step (Ext.refl _) ⟨_, rfl, hc111⟩
        refine And.intro ?_ ?_
        · intro L_ w13 hX_ hs_ hf_ hd_
          obtain ⟨v18, e18, r18⟩ := hd_ 18 rfl
          obtain ⟨ad18, rfl, hc18⟩ := r18
          refine W.step [(111, _)] (Sub.cons (e18 _ rfl) (Sub.refl _)) ?_
          refine W.load (v := .int .u32 (Ki : Int)) rfl Try.underlying84 rfl ?_ rfl ?_
          · have := hc18 0 _ (by rw [List.getElem?_drop, Nat.add_zero]; exact map_get (by omega))
            rw [add_zero'] at this
            rw [hKi]; exact this
          refine W.nil ?_
          exact At.step (Ext.refl _) rfl
        refine And.intro ?_ ?_
        · intro L_ w13 hX_ hs_ hf_ hd_
          obtain ⟨v15, e15, r15⟩ := hd_ 15 rfl
          obtain rfl : (.int .u32 ((addM 4294967296 (addM 4294967296 h (xorM 4294967296 (xorM 4294967296 (rotV e 6) (rotV e 11)) (rotV e 25))) (xorM 4294967296 (landM 4294967296 e f) (landM 4294967296 (notM 4294967296 e) g)) : Nat) : Int) : Value) = v15 := Eq.symm r15
          obtain ⟨v19, e19, r19⟩ := hd_ 19 rfl
          obtain rfl : (.int .u32 (Ki : Int) : Value) = v19 := Eq.symm r19
          refine W.step [(108, _), (112, _)] (Sub.cons (e15 _ rfl) (Sub.cons (e19 _ rfl) (Sub.refl _))) ?_
          refine W.addU (M := 4294967296) rfl rfl rfl rfl rfl ?_
          refine W.nil ?_
          exact At.step (Ext.refl _) rfl
        refine And.intro ?_ ?_
        · intro L_ w13 hX_ hs_ hf_ hd_
          refine W.step [(11, _)] (Sub.cons (hs_ _ _ rfl) (Sub.refl _)) ?_
          refine W.move rfl rfl ?_
          refine W.nil ?_
          exact At.step (Ext.refl _) rfl
        refine And.intro ?_ ?_
        · intro L_ w13 hX_ hs_ hf_ hd_
          obtain ⟨v21, e21, r21⟩ := hd_ 21 rfl
          obtain rfl : (.int .i64 (i : Int) : Value) = v21 := Eq.symm r21
          refine W.step [(4, _), (114, _)] (Sub.cons (hs_ _ _ rfl) (Sub.cons (e21 _ rfl) (Sub.refl _))) ?_
          refine W.indexA1 Words.X32 Try.underlying91 rfl rfl (by first | omega | decide) rfl ?_
          refine W.nil ?_
          exact At.step (Ext.refl _) rfl
        refine And.intro ?_ ?_
        · intro L_ w13 hX_ hs_ hf_ hd_
          obtain ⟨v22, e22, r22⟩ := hd_ 22 rfl
          obtain rfl : (.pointer (some ⟨g4, i, none⟩) : Value) = v22 := Eq.symm r22
          refine W.step [(115, _)] (Sub.cons (e22 _ rfl) (Sub.refl _)) ?_
          rw [hUi]
          refine W.loadB rfl Try.underlying84 rfl (hB4.ext hX_) (map_get (by omega)) rfl ?_
          refine W.nil ?_
          exact At.step (Ext.refl _) rfl
        refine And.intro ?_ ?_
        · intro L_ w13 hX_ hs_ hf_ hd_
          obtain ⟨v20, e20, r20⟩ := hd_ 20 rfl
          obtain rfl : (.int .u32 ((addM 4294967296 (addM 4294967296 (addM 4294967296 h (xorM 4294967296 (xorM 4294967296 (rotV e 6) (rotV e 11)) (rotV e 25))) (xorM 4294967296 (landM 4294967296 e f) (landM 4294967296 (notM 4294967296 e) g))) Ki : Nat) : Int) : Value) = v20 := Eq.symm r20
          obtain ⟨v23, e23, r23⟩ := hd_ 23 rfl
          obtain rfl : (.int .u32 (Ui : Int) : Value) = v23 := Eq.symm r23
          refine W.step [(113, _), (116, _)] (Sub.cons (e20 _ rfl) (Sub.cons (e23 _ rfl) (Sub.refl _))) ?_
          refine W.addU (M := 4294967296) rfl rfl rfl rfl rfl ?_
          rw [← hE]
          refine W.nil ?_
          exact At.step (Ext.refl _) rfl
        refine And.intro ?_ ?_
        · intro L_ w13 hX_ hs_ hf_ hd_
          obtain ⟨v24, e24, r24⟩ := hd_ 24 rfl
          obtain rfl : (.int .u32 ((oneV e f g h (addM 4294967296 Ki Ui) : Nat) : Int) : Value) = v24 := Eq.symm r24
          refine W.step [(117, _)] (Sub.cons (e24 _ rfl) (Sub.refl _)) ?_
          refine W.assign rfl rfl ?_
          refine W.nil ?_
          exact At.step (Ext.refl _) rfl
        exact trivial
      · intro L_ w13 hX13 hs_ hv_
        obtain ⟨v25, e25, r25⟩ := hv_ 25 (by decide)
        obtain rfl : (.int .u32 ((oneV e f g h (addM 4294967296 Ki Ui) : Nat) : Int) : Value) = v25 := Eq.symm r25
        refine W.weaken (l' := [(14, _), (2, _), (3, _), (4, _), (6, _), (10, _), (11, _), (12, _), (13, _)]) (Sub.cons (e25 _ rfl) (Sub.cons (hs_ _ _ rfl) (Sub.cons (hs_ _ _ rfl) (Sub.cons (hs_ _ _ rfl) (Sub.cons (hs_ _ _ rfl) (Sub.cons (hs_ _ _ rfl) (Sub.cons (hs_ _ _ rfl) (Sub.cons (hs_ _ _ rfl) (Sub.cons (hs_ _ _ rfl) (Sub.nil)))))))))) ?_
        refine W.nil ?_
        refine At.thenCode ?_
        refine C.seq ?_
        refine C.regionAny 14 ((fun v w => v = .pointer (some ⟨g10, 0, none⟩)) :: (fun v w => v = .int .u32 (a : Int)) :: (fun v w => v = .int .u32 ((rotV a 2 : Nat) : Int)) :: (fun v w => v = .pointer (some ⟨g10, 0, none⟩)) :: (fun v w => v = .int .u32 (a : Int)) :: (fun v w => v = .int .u32 ((rotV a 13 : Nat) : Int)) :: (fun v w => v = .int .u32 ((xorM 4294967296 (rotV a 2) (rotV a 13) : Nat) : Int)) :: (fun v w => v = .pointer (some ⟨g10, 0, none⟩)) :: (fun v w => v = .int .u32 (a : Int)) :: (fun v w => v = .int .u32 ((rotV a 22 : Nat) : Int)) :: (fun v w => v = .int .u32 ((xorM 4294967296 (xorM 4294967296 (rotV a 2) (rotV a 13)) (rotV a 22) : Nat) : Int)) :: (fun v w => v = .int .u32 ((xorM 4294967296 (xorM 4294967296 (landM 4294967296 a b) (landM 4294967296 a c)) (landM 4294967296 b c) : Nat) : Int)) :: (fun v w => v = .int .u32 ((twoV a b c : Nat) : Int)) :: (fun v w => v = .int .u32 ((twoV a b c : Nat) : Int)) :: []) [(2, .slice ao 64 cp), (3, .pointer (some ⟨g3, 0, none⟩)), (4, .pointer (some ⟨g4, 0, none⟩)), (6, .pointer (some ⟨g6, 0, none⟩)), (10, .pointer (some ⟨g10, 0, none⟩)), (11, .int .i64 (i : Int)), (13, .int .u32 ((xorM 4294967296 (xorM 4294967296 (landM 4294967296 a b) (landM 4294967296 a c)) (landM 4294967296 b c) : Nat) : Int)), (14, .int .u32 ((oneV e f g h (addM 4294967296 Ki Ui) : Nat) : Int))] [] (Sub.cons (rfl) (Sub.cons (rfl) (Sub.cons (rfl) (Sub.cons (rfl) (Sub.cons (rfl) (Sub.cons (rfl) (Sub.cons (rfl) (Sub.cons (rfl) (Sub.nil))))))))) (Sub.nil) (Sub.cons (rfl) (Sub.cons (rfl) (Sub.cons (rfl) (Sub.cons (rfl) (Sub.cons (rfl) (Sub.cons (rfl) (Sub.cons (rfl) (Sub.cons (rfl) (Sub.nil))))))))) (by kernel_rfl) rfl rfl rfl (And.intro (fun _ _ _ h _ => h) (And.intro (fun _ _ _ h _ => h) (And.intro (fun _ _ _ h _ => h) (And.intro (fun _ _ _ h _ => h) (And.intro (fun _ _ _ h _ => h) (And.intro (fun _ _ _ h _ => h) (And.intro (fun _ _ _ h _ => h) (And.intro (fun _ _ _ h _ => h) (And.intro (fun _ _ _ h _ => h) (And.intro (fun _ _ _ h _ => h) (And.intro (fun _ _ _ h _ => h) (And.intro (fun _ _ _ h _ => h) (And.intro (fun _ _ _ h _ => h) (And.intro (fun _ _ _ h _ => h) (trivial))))))))))))))) ?_ ?_
        · refine And.intro ?_ ?_
          · intro L_ w14 hX_ hs_ hf_ hd_
            refine W.step [(10, _)] (Sub.cons (hs_ _ _ rfl) (Sub.refl _)) ?_
            refine W.indexA1 (j := 0) Words.X32 Try.underlying88 rfl rfl (by first | omega | decide) rfl ?_
            refine W.nil ?_
            exact At.step (Ext.refl _) rfl
          refine And.intro ?_ ?_
          · intro L_ w14 hX_ hs_ hf_ hd_
            obtain ⟨v0, e0, r0⟩ := hd_ 0 rfl
            obtain rfl : (.pointer (some ⟨g10, 0, none⟩) : Value) = v0 := Eq.symm r0
            refine W.step [(118, _)] (Sub.cons (e0 _ rfl) (Sub.refl _)) ?_
            refine W.loadB rfl Try.underlying84 rfl ((hB10.ext hX13).ext hX_) rfl rfl ?_
            refine W.nil ?_
            exact At.step (Ext.refl _) rfl
          refine And.intro ?_ ?_
          · intro L_ w14 hX_ hs_ hf_ hd_
            obtain ⟨v1, e1, r1⟩ := hd_ 1 rfl
            obtain rfl : (.int .u32 (a : Int) : Value) = v1 := Eq.symm r1
            refine W.step [(119, _)] (Sub.cons (e1 _ rfl) (Sub.refl _)) ?_
            refine W.call Try.call91 rfl (turn_ok _ _ _ (by first | assumption | (apply Lt32.get; assumption))) rfl ?_
            rintro v w' ⟨rfl, rfl⟩
            refine W.nil ?_
            exact At.step (Ext.refl _) rfl
          refine And.intro ?_ ?_
          · intro L_ w14 hX_ hs_ hf_ hd_
            refine W.step [(10, _)] (Sub.cons (hs_ _ _ rfl) (Sub.refl _)) ?_
            refine W.indexA1 (j := 0) Words.X32 Try.underlying88 rfl rfl (by first | omega | decide) rfl ?_
            refine W.nil ?_
            exact At.step (Ext.refl _) rfl
          refine And.intro ?_ ?_
          · intro L_ w14 hX_ hs_ hf_ hd_
            obtain ⟨v3, e3, r3⟩ := hd_ 3 rfl
            obtain rfl : (.pointer (some ⟨g10, 0, none⟩) : Value) = v3 := Eq.symm r3
            refine W.step [(121, _)] (Sub.cons (e3 _ rfl) (Sub.refl _)) ?_
            refine W.loadB rfl Try.underlying84 rfl ((hB10.ext hX13).ext hX_) rfl rfl ?_
            refine W.nil ?_
            exact At.step (Ext.refl _) rfl
          refine And.intro ?_ ?_
          · intro L_ w14 hX_ hs_ hf_ hd_
            obtain ⟨v4, e4, r4⟩ := hd_ 4 rfl
            obtain rfl : (.int .u32 (a : Int) : Value) = v4 := Eq.symm r4
            refine W.step [(122, _)] (Sub.cons (e4 _ rfl) (Sub.refl _)) ?_
            refine W.call Try.call91 rfl (turn_ok _ _ _ (by first | assumption | (apply Lt32.get; assumption))) rfl ?_
            rintro v w' ⟨rfl, rfl⟩
            refine W.nil ?_
            exact At.step (Ext.refl _) rfl
          refine And.intro ?_ ?_
          · intro L_ w14 hX_ hs_ hf_ hd_
            obtain ⟨v2, e2, r2⟩ := hd_ 2 rfl
            obtain rfl : (.int .u32 ((rotV a 2 : Nat) : Int) : Value) = v2 := Eq.symm r2
            obtain ⟨v5, e5, r5⟩ := hd_ 5 rfl
            obtain rfl : (.int .u32 ((rotV a 13 : Nat) : Int) : Value) = v5 := Eq.symm r5
            refine W.step [(120, _), (123, _)] (Sub.cons (e2 _ rfl) (Sub.cons (e5 _ rfl) (Sub.refl _))) ?_
            refine W.xorU (M := 4294967296) rfl rfl rfl rfl rfl ?_
            refine W.nil ?_
            exact At.step (Ext.refl _) rfl
          refine And.intro ?_ ?_
          · intro L_ w14 hX_ hs_ hf_ hd_
            refine W.step [(10, _)] (Sub.cons (hs_ _ _ rfl) (Sub.refl _)) ?_
            refine W.indexA1 (j := 0) Words.X32 Try.underlying88 rfl rfl (by first | omega | decide) rfl ?_
            refine W.nil ?_
            exact At.step (Ext.refl _) rfl
          refine And.intro ?_ ?_
          · intro L_ w14 hX_ hs_ hf_ hd_
            obtain ⟨v7, e7, r7⟩ := hd_ 7 rfl
            obtain rfl : (.pointer (some ⟨g10, 0, none⟩) : Value) = v7 := Eq.symm r7
            refine W.step [(125, _)] (Sub.cons (e7 _ rfl) (Sub.refl _)) ?_
            refine W.loadB rfl Try.underlying84 rfl ((hB10.ext hX13).ext hX_) rfl rfl ?_
            refine W.nil ?_
            exact At.step (Ext.refl _) rfl
          refine And.intro ?_ ?_
          · intro L_ w14 hX_ hs_ hf_ hd_
            obtain ⟨v8, e8, r8⟩ := hd_ 8 rfl
            obtain rfl : (.int .u32 (a : Int) : Value) = v8 := Eq.symm r8
            refine W.step [(126, _)] (Sub.cons (e8 _ rfl) (Sub.refl _)) ?_
            refine W.call Try.call91 rfl (turn_ok _ _ _ (by first | assumption | (apply Lt32.get; assumption))) rfl ?_
            rintro v w' ⟨rfl, rfl⟩
            refine W.nil ?_
            exact At.step (Ext.refl _) rfl
          refine And.intro ?_ ?_
          · intro L_ w14 hX_ hs_ hf_ hd_
            obtain ⟨v6, e6, r6⟩ := hd_ 6 rfl
            obtain rfl : (.int .u32 ((xorM 4294967296 (rotV a 2) (rotV a 13) : Nat) : Int) : Value) = v6 := Eq.symm r6
            obtain ⟨v9, e9, r9⟩ := hd_ 9 rfl
            obtain rfl : (.int .u32 ((rotV a 22 : Nat) : Int) : Value) = v9 := Eq.symm r9
            refine W.step [(124, _), (127, _)] (Sub.cons (e6 _ rfl) (Sub.cons (e9 _ rfl) (Sub.refl _))) ?_
            refine W.xorU (M := 4294967296) rfl rfl rfl rfl rfl ?_
            refine W.nil ?_
            exact At.step (Ext.refl _) rfl
          refine And.intro ?_ ?_
          · intro L_ w14 hX_ hs_ hf_ hd_
            refine W.step [(13, _)] (Sub.cons (hs_ _ _ rfl) (Sub.refl _)) ?_
            refine W.move rfl rfl ?_
            refine W.nil ?_
            exact At.step (Ext.refl _) rfl
          refine And.intro ?_ ?_
          · intro L_ w14 hX_ hs_ hf_ hd_
            obtain ⟨v10, e10, r10⟩ := hd_ 10 rfl
            obtain rfl : (.int .u32 ((xorM 4294967296 (xorM 4294967296 (rotV a 2) (rotV a 13)) (rotV a 22) : Nat) : Int) : Value) = v10 := Eq.symm r10
            obtain ⟨v11, e11, r11⟩ := hd_ 11 rfl
            obtain rfl : (.int .u32 ((xorM 4294967296 (xorM 4294967296 (landM 4294967296 a b) (landM 4294967296 a c)) (landM 4294967296 b c) : Nat) : Int) : Value) = v11 := Eq.symm r11
            refine W.step [(128, _), (129, _)] (Sub.cons (e10 _ rfl) (Sub.cons (e11 _ rfl) (Sub.refl _))) ?_
            refine W.addU (M := 4294967296) rfl rfl rfl rfl rfl ?_
            refine W.nil ?_
            exact At.step (Ext.refl _) rfl
          refine And.intro ?_ ?_
          · intro L_ w14 hX_ hs_ hf_ hd_
            obtain ⟨v12, e12, r12⟩ := hd_ 12 rfl
            obtain rfl : (.int .u32 ((twoV a b c : Nat) : Int) : Value) = v12 := Eq.symm r12
            refine W.step [(130, _)] (Sub.cons (e12 _ rfl) (Sub.refl _)) ?_
            refine W.assign rfl rfl ?_
            refine W.nil ?_
            exact At.step (Ext.refl _) rfl
          exact trivial
        · intro L_ w14 hX14 hs_ hv_
          obtain ⟨v13, e13, r13⟩ := hv_ 13 (by decide)
          obtain rfl : (.int .u32 ((twoV a b c : Nat) : Int) : Value) = v13 := Eq.symm r13
          refine W.weaken (l' := [(15, _), (2, _), (3, _), (4, _), (6, _), (10, _), (11, _), (13, _), (14, _)]) (Sub.cons (e13 _ rfl) (Sub.cons (hs_ _ _ rfl) (Sub.cons (hs_ _ _ rfl) (Sub.cons (hs_ _ _ rfl) (Sub.cons (hs_ _ _ rfl) (Sub.cons (hs_ _ _ rfl) (Sub.cons (hs_ _ _ rfl) (Sub.cons (hs_ _ _ rfl) (Sub.cons (hs_ _ _ rfl) (Sub.nil)))))))))) ?_
          refine W.nil ?_
          refine At.thenCode ?_
          refine C.seq ?_
          refine C.seq ?_
          refine C.region ?_
          refine W.assign rfl rfl ?_
          refine W.nil ?_
          refine At.thenCode ?_
          refine C.block ?_
          refine C.loop (X := Nat) (fun x_ => [(2, .slice ao 64 cp), (3, .pointer (some ⟨g3, 0, none⟩)), (4, .pointer (some ⟨g4, 0, none⟩)), (6, .pointer (some ⟨g6, 0, none⟩)), (10, .pointer (some ⟨g10, 0, none⟩)), (11, .int .i64 (i : Int)), (14, .int .u32 ((oneV e f g h (addM 4294967296 Ki Ui) : Nat) : Int)), (15, .int .u32 ((twoV a b c : Nat) : Int)), (16, .int .i64 (x_ : Int))]) (fun x_ w3 => Ext w w3 ∧ x_ ≤ 7 ∧ Bk w3 g3 (hs.map u32V) ∧ Bk w3 g4 (U.map u32V) ∧ Bk w3 g6 (List.replicate 8 (u32V 0)) ∧ Bk w3 g10 ((shf [a, b, c, d, e, f, g, h] x_).map u32V)) (fun x_ => x_) (7) (Sub.cons (rfl) (Sub.cons (rfl) (Sub.cons (rfl) (Sub.cons (rfl) (Sub.cons (rfl) (Sub.cons (rfl) (Sub.cons (rfl) (Sub.cons (rfl) (Sub.cons (rfl) (Sub.nil)))))))))) ?start3 ?_
          case start3 =>
            show Ext w _ ∧ (7) ≤ 7 ∧ Bk _ g3 (hs.map u32V) ∧ Bk _ g4 (U.map u32V) ∧ Bk _ g6 (List.replicate 8 (u32V 0)) ∧ Bk _ g10 ((shf [a, b, c, d, e, f, g, h] (7)).map u32V)
            exact ⟨(hX2.ext hX13).ext hX14, by omega, (hB3.ext hX13).ext hX14, (hB4.ext hX13).ext hX14, (hB6.ext hX13).ext hX14, (hB10.ext hX13).ext hX14⟩
          rintro k w3 hI_
          replace hI_ : Ext w w3 ∧ k ≤ 7 ∧ Bk w3 g3 (hs.map u32V) ∧ Bk w3 g4 (U.map u32V) ∧ Bk w3 g6 (List.replicate 8 (u32V 0)) ∧ Bk w3 g10 ((shf [a, b, c, d, e, f, g, h] k).map u32V) := hI_
          obtain ⟨hX3, hk, hB3, hB4, hB6, hB10⟩ := hI_
          refine C.weaken (l' := [(2, .slice ao 64 cp), (3, .pointer (some ⟨g3, 0, none⟩)), (4, .pointer (some ⟨g4, 0, none⟩)), (6, .pointer (some ⟨g6, 0, none⟩)), (10, .pointer (some ⟨g10, 0, none⟩)), (11, .int .i64 (i : Int)), (14, .int .u32 ((oneV e f g h (addM 4294967296 Ki Ui) : Nat) : Int)), (15, .int .u32 ((twoV a b c : Nat) : Int)), (16, .int .i64 (k : Int))]) (Sub.cons (rfl) (Sub.cons (rfl) (Sub.cons (rfl) (Sub.cons (rfl) (Sub.cons (rfl) (Sub.cons (rfl) (Sub.cons (rfl) (Sub.cons (rfl) (Sub.cons (rfl) (Sub.nil)))))))))) ?_
          refine C.seq ?_
          refine C.seq ?_
          refine C.region ?_
          refine W.move rfl rfl ?_
          refine W.gtrI rfl rfl rfl ?_
          refine W.nil ?_
          refine At.thenCode ?_
          first | refine C.condD rfl (fun c132 => ?_) (fun c132 => ?_) | refine C.cond rfl (fun c132 => ?_) (fun c132 => ?_)
          · obtain ⟨sv, hsv1, hsv2⟩ := shf_step a b c d e f g h (k := k) (by omega) hk
            have hsl := shf_length a b c d e f g h k hk
            refine C.skip ?_
            refine At.thenCode ?_
            refine C.seq ?_
            refine C.block ?_
            refine C.region ?_
            refine W.move rfl rfl ?_
            refine W.move rfl rfl ?_
            first | refine W.subI rfl rfl (by omega) rfl ?_ | refine W.subW rfl rfl rfl ?_
            rw [show (k : Int) - 1 = ((k - 1 : Nat) : Int) by omega]
            refine W.indexA1 Words.X32 Try.underlying88 rfl rfl (by first | omega | decide) rfl ?_
            refine W.loadB rfl Try.underlying84 rfl hB10 hsv1 rfl ?_
            refine W.indexA1 Words.X32 Try.underlying88 rfl rfl (by first | omega | decide) rfl ?_
            refine W.store1 rfl rfl rfl hB10 (by rw [List.length_map]; omega) (by kernel_rfl) ?_
            intro w9 hc9 hB9
            rw [hsv2] at hB9
            refine W.nil ?_
            refine At.blockNormal ?_
            refine At.thenCode ?_
            refine C.region ?_
            refine W.move rfl rfl ?_
            first | refine W.subI rfl rfl (by omega) rfl ?_ | refine W.subW rfl rfl rfl ?_
            refine W.assign rfl rfl ?_
            refine W.nil ?_
            refine At.thenRound (k - 1) (Sub.cons (rfl) (Sub.cons (rfl) (Sub.cons (rfl) (Sub.cons (rfl) (Sub.cons (rfl) (Sub.cons (rfl) (Sub.cons (rfl) (Sub.cons (rfl) (Sub.cons (look_eq rfl (by rw [show (k : Int) - 1 = ((k - 1 : Nat) : Int) by omega])) (Sub.nil)))))))))) (show Ext w _ ∧ (k - 1) ≤ 7 ∧ Bk _ g3 (hs.map u32V) ∧ Bk _ g4 (U.map u32V) ∧ Bk _ g6 (List.replicate 8 (u32V 0)) ∧ Bk _ g10 ((shf [a, b, c, d, e, f, g, h] (k - 1)).map u32V) from ?_) (show (k - 1) < k from ?_)
            · exact ⟨hX3.news hc9 (fun k hk => Or.inr (by omega)), by omega, hB3.chg hc9 (by omega), hB4.chg hc9 (by omega), hB6.chg hc9 (by omega), hB9⟩
            · omega
          · obtain rfl : k = 0 := by omega
            refine C.exit ?_
            refine At.thenExit ?_
            refine At.thenExit ?_
            refine At.blockSelf ?_
            refine At.thenCode ?_
            refine C.seq ?_
            refine C.region ?_
            refine W.indexA1 (j := 4) Words.X32 Try.underlying88 rfl rfl (by first | omega | decide) rfl ?_
            refine W.loadB rfl Try.underlying84 rfl (by assumption) rfl rfl ?_
            refine W.move rfl rfl ?_
            refine W.addU (M := 4294967296) rfl rfl rfl rfl rfl ?_
            refine W.indexA1 (j := 4) Words.X32 Try.underlying88 rfl rfl (by first | omega | decide) rfl ?_
            refine W.store1 rfl rfl rfl hB10 (by simp [shf]) (by kernel_rfl) ?_
            intro w19 hc19 hB19
            refine W.nil ?_
            refine At.thenCode ?_
            refine C.region ?_
            refine W.move rfl rfl ?_
            refine W.move rfl rfl ?_
            refine W.addU (M := 4294967296) rfl rfl rfl rfl rfl ?_
            refine W.indexA1 (j := 0) Words.X32 Try.underlying88 rfl rfl (by first | omega | decide) rfl ?_
            refine W.store1 rfl rfl rfl hB19 (by simp [shf]) (by kernel_rfl) ?_
            intro w20 hc20 hB20
            have hB20' : Bk w20 g10 ((rnd hs K U (i + 1)).map u32V) := by rw [hr1]; exact hB20
            refine W.nil ?_
            refine At.blockNormal ?_
            refine At.thenCode ?_
            refine C.region ?_
            refine W.move rfl rfl ?_
            first | refine W.addI rfl rfl (by omega) rfl ?_ | refine W.addW rfl rfl rfl ?_
            refine W.assign rfl rfl ?_
            refine W.nil ?_
            refine At.thenRound (i + 1) (Sub.cons (rfl) (Sub.cons (rfl) (Sub.cons (rfl) (Sub.cons (rfl) (Sub.cons (rfl) (Sub.cons (look_eq rfl (by rw [show (i : Int) + 1 = ((i + 1 : Nat) : Int) by omega])) (Sub.nil))))))) (show Ext w _ ∧ (i + 1) ≤ 64 ∧ Bk _ g3 (hs.map u32V) ∧ Bk _ g4 (U.map u32V) ∧ Bk _ g6 (List.replicate 8 (u32V 0)) ∧ Bk _ g10 ((rnd hs K U (i + 1)).map u32V) from ?_) (show 64 - (i + 1) < 64 - i from ?_)
            · exact ⟨(hX3.news hc19 (fun k hk => Or.inr (by omega))).news hc20 (fun k hk => Or.inr (by omega)), by omega, (hB3.chg hc19 (by omega)).chg hc20 (by omega), (hB4.chg hc19 (by omega)).chg hc20 (by omega), (hB6.chg hc19 (by omega)).chg hc20 (by omega), hB20'⟩
            · omega
    · obtain rfl : i = 64 := by omega
      have hR := rnd_length hh K U 64
      refine C.exit ?_
      refine At.thenExit ?_
      refine At.thenExit ?_
      refine At.blockSelf ?_
      refine At.thenCode ?_
      refine C.seq ?_
      refine C.seq ?_
      refine C.region ?_
      refine W.assign rfl rfl ?_
      refine W.nil ?_
      refine At.thenCode ?_
      refine C.block ?_
      refine C.loop (X := Nat) (fun x_ => [(3, .pointer (some ⟨g3, 0, none⟩)), (6, .pointer (some ⟨g6, 0, none⟩)), (10, .pointer (some ⟨g10, 0, none⟩)), (17, .int .i64 (x_ : Int))]) (fun x_ w4 => Ext w w4 ∧ x_ ≤ 8 ∧ Bk w4 g3 (hs.map u32V) ∧ Bk w4 g6 (List.replicate 8 (u32V 0)) ∧ Bk w4 g10 ((mid8 (rnd hs K U 64) hs x_).map u32V)) (fun x_ => 8 - x_) (0) (Sub.cons (rfl) (Sub.cons (rfl) (Sub.cons (rfl) (Sub.cons (rfl) (Sub.nil))))) ?start4 ?_
      case start4 =>
        show Ext w _ ∧ (0) ≤ 8 ∧ Bk _ g3 (hs.map u32V) ∧ Bk _ g6 (List.replicate 8 (u32V 0)) ∧ Bk _ g10 ((mid8 (rnd hs K U 64) hs (0)).map u32V)
        exact ⟨hX2, by omega, hB3, hB6, hB10⟩
      rintro j w4 hI_
      replace hI_ : Ext w w4 ∧ j ≤ 8 ∧ Bk w4 g3 (hs.map u32V) ∧ Bk w4 g6 (List.replicate 8 (u32V 0)) ∧ Bk w4 g10 ((mid8 (rnd hs K U 64) hs j).map u32V) := hI_
      obtain ⟨hX4, hj, hB3, hB6, hB10⟩ := hI_
      refine C.weaken (l' := [(3, .pointer (some ⟨g3, 0, none⟩)), (6, .pointer (some ⟨g6, 0, none⟩)), (10, .pointer (some ⟨g10, 0, none⟩)), (17, .int .i64 (j : Int))]) (Sub.cons (rfl) (Sub.cons (rfl) (Sub.cons (rfl) (Sub.cons (rfl) (Sub.nil))))) ?_
      refine C.seq ?_
      refine C.seq ?_
      refine C.region ?_
      refine W.move rfl rfl ?_
      refine W.lssI rfl rfl rfl ?_
      refine W.nil ?_
      refine At.thenCode ?_
      first | refine C.condD rfl (fun c151 => ?_) (fun c151 => ?_) | refine C.cond rfl (fun c151 => ?_) (fun c151 => ?_)
      · have hm := mid8_length (j := j) hR hh hj
        refine C.skip ?_
        refine At.thenCode ?_
        refine C.seq ?_
        refine C.block ?_
        refine C.regionAny 9 ((fun v w => v = .int .i64 (j : Int)) :: (fun v w => v = .int .i64 (j : Int)) :: (fun v w => v = .pointer (some ⟨g10, j, none⟩)) :: (fun v w => v = .int .u32 (((rnd hs K U 64).getD j 0 : Nat) : Int)) :: (fun v w => v = .int .i64 (j : Int)) :: (fun v w => v = .pointer (some ⟨g3, j, none⟩)) :: (fun v w => v = .int .u32 ((hs.getD j 0 : Nat) : Int)) :: (fun v w => v = .int .u32 ((addM 4294967296 ((rnd hs K U 64).getD j 0) (hs.getD j 0) : Nat) : Int)) :: (fun v w => v = .pointer (some ⟨g10, j, none⟩)) :: []) [(3, .pointer (some ⟨g3, 0, none⟩)), (6, .pointer (some ⟨g6, 0, none⟩)), (10, .pointer (some ⟨g10, 0, none⟩)), (17, .int .i64 (j : Int))] [] (Sub.cons (rfl) (Sub.cons (rfl) (Sub.cons (rfl) (Sub.cons (rfl) (Sub.nil))))) (Sub.nil) (Sub.cons (rfl) (Sub.cons (rfl) (Sub.cons (rfl) (Sub.cons (rfl) (Sub.nil))))) (by kernel_rfl) rfl rfl rfl (And.intro (fun _ _ _ h _ => h) (And.intro (fun _ _ _ h _ => h) (And.intro (fun _ _ _ h _ => h) (And.intro (fun _ _ _ h _ => h) (And.intro (fun _ _ _ h _ => h) (And.intro (fun _ _ _ h _ => h) (And.intro (fun _ _ _ h _ => h) (And.intro (fun _ _ _ h _ => h) (And.intro (fun _ _ _ h _ => h) (trivial)))))))))) ?_ ?_
        · refine And.intro ?_ ?_
          · intro L_ w24 hX_ hs_ hf_ hd_
            refine W.step [(17, _)] (Sub.cons (hs_ _ _ rfl) (Sub.refl _)) ?_
            refine W.move rfl rfl ?_
            refine W.nil ?_
            exact At.step (Ext.refl _) rfl
          refine And.intro ?_ ?_
          · intro L_ w24 hX_ hs_ hf_ hd_
            refine W.step [(17, _)] (Sub.cons (hs_ _ _ rfl) (Sub.refl _)) ?_
            refine W.move rfl rfl ?_
            refine W.nil ?_
            exact At.step (Ext.refl _) rfl
          refine And.intro ?_ ?_
          · intro L_ w24 hX_ hs_ hf_ hd_
            obtain ⟨v1, e1, r1⟩ := hd_ 1 rfl
            obtain rfl : (.int .i64 (j : Int) : Value) = v1 := Eq.symm r1
            refine W.step [(10, _), (155, _)] (Sub.cons (hs_ _ _ rfl) (Sub.cons (e1 _ rfl) (Sub.refl _))) ?_
            refine W.indexA1 Words.X32 Try.underlying88 rfl rfl (by first | omega | decide) rfl ?_
            refine W.nil ?_
            exact At.step (Ext.refl _) rfl
          refine And.intro ?_ ?_
          · intro L_ w24 hX_ hs_ hf_ hd_
            obtain ⟨v2, e2, r2⟩ := hd_ 2 rfl
            obtain rfl : (.pointer (some ⟨g10, j, none⟩) : Value) = v2 := Eq.symm r2
            refine W.step [(156, _)] (Sub.cons (e2 _ rfl) (Sub.refl _)) ?_
            refine W.loadB rfl Try.underlying84 rfl (hB10.ext hX_) (by rw [map_get (by omega), mid8_get hR hh (by omega)]) rfl ?_
            refine W.nil ?_
            exact At.step (Ext.refl _) rfl
          refine And.intro ?_ ?_
          · intro L_ w24 hX_ hs_ hf_ hd_
            refine W.step [(17, _)] (Sub.cons (hs_ _ _ rfl) (Sub.refl _)) ?_
            refine W.move rfl rfl ?_
            refine W.nil ?_
            exact At.step (Ext.refl _) rfl
          refine And.intro ?_ ?_
          · intro L_ w24 hX_ hs_ hf_ hd_
            obtain ⟨v4, e4, r4⟩ := hd_ 4 rfl
            obtain rfl : (.int .i64 (j : Int) : Value) = v4 := Eq.symm r4
            refine W.step [(3, _), (158, _)] (Sub.cons (hs_ _ _ rfl) (Sub.cons (e4 _ rfl) (Sub.refl _))) ?_
            refine W.indexA1 Words.X32 Try.underlying88 rfl rfl (by first | omega | decide) rfl ?_
            refine W.nil ?_
            exact At.step (Ext.refl _) rfl
          refine And.intro ?_ ?_
          · intro L_ w24 hX_ hs_ hf_ hd_
            obtain ⟨v5, e5, r5⟩ := hd_ 5 rfl
            obtain rfl : (.pointer (some ⟨g3, j, none⟩) : Value) = v5 := Eq.symm r5
            refine W.step [(159, _)] (Sub.cons (e5 _ rfl) (Sub.refl _)) ?_
            refine W.loadB rfl Try.underlying84 rfl (hB3.ext hX_) (map_get (by omega)) rfl ?_
            refine W.nil ?_
            exact At.step (Ext.refl _) rfl
          refine And.intro ?_ ?_
          · intro L_ w24 hX_ hs_ hf_ hd_
            obtain ⟨v3, e3, r3⟩ := hd_ 3 rfl
            obtain rfl : (.int .u32 (((rnd hs K U 64).getD j 0 : Nat) : Int) : Value) = v3 := Eq.symm r3
            obtain ⟨v6, e6, r6⟩ := hd_ 6 rfl
            obtain rfl : (.int .u32 ((hs.getD j 0 : Nat) : Int) : Value) = v6 := Eq.symm r6
            refine W.step [(157, _), (160, _)] (Sub.cons (e3 _ rfl) (Sub.cons (e6 _ rfl) (Sub.refl _))) ?_
            refine W.addU (M := 4294967296) rfl rfl rfl rfl rfl ?_
            refine W.nil ?_
            exact At.step (Ext.refl _) rfl
          refine And.intro ?_ ?_
          · intro L_ w24 hX_ hs_ hf_ hd_
            obtain ⟨v0, e0, r0⟩ := hd_ 0 rfl
            obtain rfl : (.int .i64 (j : Int) : Value) = v0 := Eq.symm r0
            refine W.step [(10, _), (154, _)] (Sub.cons (hs_ _ _ rfl) (Sub.cons (e0 _ rfl) (Sub.refl _))) ?_
            refine W.indexA1 Words.X32 Try.underlying88 rfl rfl (by first | omega | decide) rfl ?_
            refine W.nil ?_
            exact At.step (Ext.refl _) rfl
          exact trivial
        · intro L_ w24 hX24 hs_ hv_
          obtain ⟨v8, e8, r8⟩ := hv_ 8 (by decide)
          obtain rfl : (.pointer (some ⟨g10, j, none⟩) : Value) = v8 := Eq.symm r8
          obtain ⟨v7, e7, r7⟩ := hv_ 7 (by decide)
          obtain rfl : (.int .u32 ((addM 4294967296 ((rnd hs K U 64).getD j 0) (hs.getD j 0) : Nat) : Int) : Value) = v7 := Eq.symm r7
          refine W.weaken (l' := [(162, _), (161, _), (3, _), (6, _), (10, _), (17, _)]) (Sub.cons (e8 _ rfl) (Sub.cons (e7 _ rfl) (Sub.cons (hs_ _ _ rfl) (Sub.cons (hs_ _ _ rfl) (Sub.cons (hs_ _ _ rfl) (Sub.cons (hs_ _ _ rfl) (Sub.nil))))))) ?_
          refine W.store1 rfl rfl rfl (hB10.ext hX24) (by rw [List.length_map]; omega) (by kernel_rfl) ?_
          intro w9 hc9 hB9
          have hB9' : Bk w9 g10 ((mid8 (rnd hs K U 64) hs (j + 1)).map u32V) := by
            rw [← mid8_set hR hh (by omega), List.map_set]
            exact hB9
          refine W.nil ?_
          refine At.blockNormal ?_
          refine At.thenCode ?_
          refine C.region ?_
          refine W.move rfl rfl ?_
          first | refine W.addI rfl rfl (by omega) rfl ?_ | refine W.addW rfl rfl rfl ?_
          refine W.assign rfl rfl ?_
          refine W.nil ?_
          refine At.thenRound (j + 1) (Sub.cons (rfl) (Sub.cons (rfl) (Sub.cons (rfl) (Sub.cons (look_eq rfl (by rw [show (j : Int) + 1 = ((j + 1 : Nat) : Int) by omega])) (Sub.nil))))) (show Ext w _ ∧ (j + 1) ≤ 8 ∧ Bk _ g3 (hs.map u32V) ∧ Bk _ g6 (List.replicate 8 (u32V 0)) ∧ Bk _ g10 ((mid8 (rnd hs K U 64) hs (j + 1)).map u32V) from ?_) (show 8 - (j + 1) < 8 - j from ?_)
          · exact ⟨(hX4.ext hX24).news hc9 (fun k hk => Or.inr (by omega)), by omega, (hB3.ext hX24).chg hc9 (by omega), (hB6.ext hX24).chg hc9 (by omega), hB9'⟩
          · omega
      · refine C.exit ?_
        refine At.thenExit ?_
        refine At.thenExit ?_
        refine At.blockSelf ?_
        refine At.thenCode ?_
        refine C.seq ?_
        refine C.region ?_
        obtain rfl : j = 8 := by omega
        rw [mid8_full hR hh, addL_comm] at hB10
        have hml : (mixV hs K U).length = 8 := mixV_length hh _ _
        refine W.loadA (cs := (mixV hs K U).map u32V) rfl (hB10.cells (o := 0)) Try.underlying88 rfl (by rw [List.length_map, hml]; kernel_rfl) rfl ?_
        refine W.storeA ((mixV hs K U).map u32V) rfl rfl hB6 (by rw [List.length_map, hml]; rfl) (by rw [List.length_map, hml]; kernel_rfl) (u32_oneCell _) ?_
        intro wz hcz hBz
        refine W.nil ?_
        refine At.thenCode ?_
        refine C.ret ?_
        -- RESULT IN A CELL
        refine At.retC Try.results73 rfl (hBz.cells (o := 0)) Try.underlying88 rfl (by rw [List.drop_zero, List.length_map, hml]; kernel_rfl) ⟨rfl, ?_⟩
        exact hX4.news hcz (fun k hk => Or.inr (by omega))

theorem Written_ok (w : World) : Ct Try.prog 71 #[] w (fun v w' => (∃ ao c, v = .tuple #[.slice ao 64 c, .agg (shaH.map u32V).toArray] ∧ Sl w' ao 64 c 1 (shaK.map u32V) ∧ ∀ ad, ao = some ad → w.heap.size ≤ ad.block) ∧ Ext w w') := by
  refine Ct.enter [] Try.func71 rfl rfl rfl rfl ?_
  refine C.seq ?_
  refine C.region ?_
  refine W.assign rfl rfl ?_
  refine W.alloc (z := .agg (List.replicate 8 (u32V 0)).toArray) (List.replicate 8 (u32V 0)) (by kernel_rfl) rfl rfl ?_
  intro g1 w1 hg1 hX1 hB1
  have hl1 := hB1.lt
  refine W.nil ?_
  refine At.thenCode ?_
  refine C.seq ?_
  refine C.region ?_
  refine W.buildA (shaH.map u32V) (List.replicate 8 (u32V 0)) X32 Try.underlying88 (by kernel_rfl) rfl rfl (u32_oneCell _) rfl rfl ?_
  refine W.alloc (z := .agg (List.replicate 8 (u32V 0)).toArray) (List.replicate 8 (u32V 0)) (by kernel_rfl) rfl rfl ?_
  intro g2 w2 hg2 hX2 hB2
  have hs1 := hX1.size
  refine W.storeA (shaH.map u32V) rfl rfl hB2 rfl (by kernel_rfl) (u32_oneCell _) ?_
  intro w3 hc3 hB2
  have hX3 : Ext w w3 := (hX1.ext hX2).news hc3 (fun k hk => Or.inr (by omega))
  have hB1 := (hB1.ext hX2).chg hc3 (by omega)
  refine W.nil ?_
  refine At.thenCode ?_
  refine C.seq ?_
  refine C.regionAny 3 ((fun v w => ∃ ao c, v = .slice ao 64 c ∧ Sl w ao 64 c 1 (shaK.map u32V) ∧ ∀ ad, ao = some ad → w3.heap.size ≤ ad.block) :: (fun v w => v = .agg (shaH.map u32V).toArray) :: (fun v w => ∃ ao c, v = .slice ao 64 c ∧ Sl w ao 64 c 1 (shaK.map u32V) ∧ ∀ ad, ao = some ad → w3.heap.size ≤ ad.block) :: []) [(1, .pointer (some ⟨g1, 0, none⟩)), (2, .pointer (some ⟨g2, 0, none⟩))] [] (Sub.cons (rfl) (Sub.cons (rfl) (Sub.nil))) (Sub.nil) (Sub.cons (rfl) (Sub.cons (rfl) (Sub.nil))) (by kernel_rfl) rfl rfl rfl (And.intro (fun _ _ _ ⟨ao, c, e, h, hb⟩ g => ⟨ao, c, e, Sl.ext h g, hb⟩) (And.intro (fun _ _ _ h _ => h) (And.intro (fun _ _ _ ⟨ao, c, e, h, hb⟩ g => ⟨ao, c, e, Sl.ext h g, hb⟩) (trivial)))) ?_ ?_
  · refine And.intro ?_ ?_
    · intro L_ w5 hX_ hs_ hf_ hd_
      refine W.step [] (Sub.refl _) ?_
      refine W.litV (shaK.map u32V) X32 Try.underlying87 rfl rfl (u32_oneCell _) rfl rfl rfl ?_
      intro g4 w4 hg4 hX4 ho4 hS4
      refine W.nil ?_
      exact At.step hX4 ⟨_, _, rfl, hS4, fun ad e => by obtain rfl := Option.some.inj e; have := hX_.size; show w3.heap.size ≤ g4; omega⟩
    refine And.intro ?_ ?_
    · intro L_ w5 hX_ hs_ hf_ hd_
      refine W.step [(2, _)] (Sub.cons (hs_ _ _ rfl) (Sub.refl _)) ?_
      refine W.loadA rfl ((hB2.ext hX_).cells (o := 0)) Try.underlying88 rfl (by kernel_rfl) rfl ?_
      refine W.nil ?_
      exact At.step (Ext.refl _) rfl
    refine And.intro ?_ ?_
    · intro L_ w5 hX_ hs_ hf_ hd_
      obtain ⟨v0, e0, r0⟩ := hd_ 0 rfl
      obtain ⟨ao0, c0, rfl, hS0, hb0⟩ := r0
      refine W.step [(4, _)] (Sub.cons (e0 _ rfl) (Sub.refl _)) ?_
      refine W.assign rfl rfl ?_
      refine W.nil ?_
      exact At.step (Ext.refl _) ⟨_, _, rfl, hS0, hb0⟩
    exact trivial
  · intro L_ w5 hX2 hs_ hv_
    obtain ⟨v2, e2, r2⟩ := hv_ 2 (by decide)
    obtain ⟨ao2, c2, rfl, hS2, hb2⟩ := r2
    obtain ⟨v1, e1, r1⟩ := hv_ 1 (by decide)
    obtain rfl : (.agg (shaH.map u32V).toArray : Value) = v1 := Eq.symm r1
    refine W.weaken (l' := [(0, _), (5, _), (1, _), (2, _)]) (Sub.cons (e2 _ rfl) (Sub.cons (e1 _ rfl) (Sub.cons (hs_ _ _ rfl) (Sub.cons (hs_ _ _ rfl) (Sub.nil))))) ?_
    refine W.storeA (shaH.map u32V) rfl rfl (hB1.ext hX2) rfl (by kernel_rfl) (u32_oneCell _) ?_
    intro w6 hc6 hB6
    refine W.nil ?_
    refine At.thenCode ?_
    refine C.ret ?_
    -- RESULT IN A CELL
    refine At.retTC Try.results71 rfl rfl (hB6.cells (o := 0)) Try.underlying88 rfl (by kernel_rfl) ⟨⟨_, _, rfl, Sl.chg hS2 hc6 (fun ad e _ hk => ?_), fun ad e => ?_⟩, ?_⟩
    · have := hb2 ad e
      have := (hB1.lt : g1 < w3.heap.size)
      omega
    · have := hb2 ad e
      have := hX3.size
      omega
    · exact (hX3.ext hX2).news hc6 (fun k hk => Or.inr (by omega))

theorem getV_take {xs : List UInt8} {i : Nat} (h : 4 * i + 4 ≤ 64) (hl : 64 ≤ xs.length) : getV xs ((4 * i : Nat) : Int) 4 = getV (xs.take 64) ((4 * i : Nat) : Int) 4 := by
  have e1 : getE xs ((4 * i : Nat) : Int) 4 = 0 := getE_0.2 (by omega)
  have e2 : getE (xs.take 64) ((4 * i : Nat) : Int) 4 = 0 := getE_0.2 (by rw [List.length_take]; omega)
  rw [getV, if_pos e1, getV, if_pos e2, Int.toNat_natCast, List.drop_take, List.take_take, Nat.min_eq_left (by omega)]
def part32 (l : List UInt8) : List Value := l.map byteV ++ List.replicate (32 - l.length) (byteV 0)
theorem part32_length {l : List UInt8} (h : l.length ≤ 32) : (part32 l).length = 32 := by simp [part32]; omega
theorem part32_set {l : List UInt8} (h : l.length < 32) (v : UInt8) : (part32 l).set l.length (byteV v) = part32 (l ++ [v]) := by
  unfold part32
  rw [List.set_append_right _ _ (by simp), List.length_map, Nat.sub_self, List.map_append, List.append_assoc]
  congr 1
  rw [show 32 - l.length = (32 - (l ++ [v]).length) + 1 by simp; omega, List.replicate_succ]
  rfl
theorem part32_full {l : List UInt8} (h : l.length = 32) : part32 l = l.map byteV := by simp [part32, h]

theorem RSha_ok (ao : Option Addr) (c : Nat) (xs : List UInt8) (w : World) (hS : Bs w ao c xs) (hl : xs.length ≤ 1000000) :
    Ct Try.prog 47 #[.slice ao xs.length c] w (fun v w' => v = keyV (shaV xs) ∧ Ext w w') := by
  refine Ct.enter [(0, .slice ao xs.length c)] Try.func47 rfl rfl rfl rfl ?_
  refine C.seq ?_
  refine C.region ?_
  refine W.alloc (z := .agg (List.replicate 32 (byteV 0)).toArray) (List.replicate 32 (byteV 0)) (by kernel_rfl) rfl rfl ?_
  intro g2 w2 hg2 hX2 hB2
  have hl2 := hB2.lt
  refine W.nil ?_
  refine At.thenCode ?_
  refine C.seq ?_
  refine C.region ?_
  refine W.call Try.call71 rfl (Written_ok _) rfl ?_
  rintro v15 w15 ⟨⟨ao15, c15, rfl, hS15, hb15⟩, hX15⟩
  refine W.move rfl rfl ?_
  refine W.extract rfl rfl rfl ?_
  refine W.extract rfl rfl rfl ?_
  refine W.alloc (z := .agg (List.replicate 8 (u32V 0)).toArray) (List.replicate 8 (u32V 0)) (by kernel_rfl) rfl rfl ?_
  intro g4 w4 hg4 hX4 hB4
  have hl4 := hB4.lt
  have hs2 := hX2.size
  have hs15 := hX15.size
  have hs4 := hX4.size
  have hn24 : g2 ≠ g4 := by omega
  have hb2 : w.heap.size ≤ g2 := by omega
  have hb4 : w.heap.size ≤ g4 := by omega
  refine W.assign rfl rfl ?_
  refine W.storeA (shaH.map u32V) rfl rfl hB4 rfl (by kernel_rfl) (u32_oneCell _) ?_
  intro w6 hc6 hB4
  have hX6 : Ext w w6 := ((hX2.ext hX15).ext hX4).news hc6 (fun k hk => Or.inr (by omega))
  have hB2 := ((hB2.ext hX15).ext hX4).chg hc6 (by omega)
  have hSK : Sl w6 ao15 64 c15 1 (shaK.map u32V) := (hS15.ext hX4).chg hc6 (fun ad e hne hk => by have := hS15.blk e hne; omega)
  have hKlt : ∀ ad, ao15 = some ad → ad.block < g4 := fun ad e => by have := hS15.blk e (by decide); omega
  have hKge : ∀ ad, ao15 = some ad → g2 < ad.block := fun ad e => by have := hb15 ad e; omega
  refine W.nil ?_
  refine At.thenCode ?_
  refine C.seq ?_
  refine C.region ?_
  refine W.move rfl rfl ?_
  refine W.appendB E8 Try.underlying24 rfl rfl (Ow.nil w6 w6.heap.size 5) (hS.ext hX6) (by simp; omega) (Nat.le_refl _) rfl ?_
  rw [List.nil_append]
  intro v19 w19 ho19 hg19 _
  have hX19 : Ext w6 w19 := (Chg.of_grown hg19).mono fun k hk => by cases hk
  refine W.litB [128] E8 Try.underlying24 rfl rfl rfl rfl rfl ?_
  intro g20 w20 hg20 hX20 _ hb20
  have ho20 := ownsRow_ext ho19 hX20
  refine W.appendB E8 Try.underlying24 rfl rfl ho20 hb20 (by simp; omega) (by have := hX19.size; have := hX20.size; omega) rfl ?_
  intro v21 w21 ho21 hg21 _
  have hX21 : Ext w6 w21 := (hX19.ext hX20).news (Chg.of_grown hg21) (fun k hk => Or.inr ((World.ownsRow.lt ho20 k hk.symm).1))
  have hz : padZ xs.length < 64 ∧ (xs.length + 1 + padZ xs.length) % 64 = 56 := by unfold padZ; omega
  refine W.assign rfl rfl ?_
  refine W.nil ?_
  refine At.thenCode ?_
  refine C.seq ?_
  refine C.block ?_
  refine C.loop (X := Nat × Value) (fun x_ => [(0, .slice ao xs.length c), (2, .pointer (some ⟨g2, 0, none⟩)), (3, .slice ao15 64 c15), (4, .pointer (some ⟨g4, 0, none⟩)), (5, x_.2)]) (fun x_ w1 => Ext w6 w1 ∧ x_.1 ≤ padZ xs.length ∧ Ow w1 w6.heap.size 5 x_.2 (xs ++ [128] ++ List.replicate x_.1 0)) (fun x_ => padZ xs.length - x_.1) (0, v21) (Sub.cons (rfl) (Sub.cons (rfl) (Sub.cons (rfl) (Sub.cons (rfl) (Sub.cons (rfl) (Sub.nil)))))) ?start1 ?_
  case start1 =>
    show Ext w6 _ ∧ (0) ≤ padZ xs.length ∧ Ow _ w6.heap.size 5 (v21) (xs ++ [128] ++ List.replicate (0) 0)
    exact ⟨hX21, by omega, by rw [List.replicate_zero, List.append_nil]; exact ho21⟩
  rintro ⟨k, v⟩ w1 hI_
  replace hI_ : Ext w6 w1 ∧ k ≤ padZ xs.length ∧ Ow w1 w6.heap.size 5 v (xs ++ [128] ++ List.replicate k 0) := hI_
  obtain ⟨hX1, hk, hO1⟩ := hI_
  refine C.weaken (l' := [(0, .slice ao xs.length c), (2, .pointer (some ⟨g2, 0, none⟩)), (3, .slice ao15 64 c15), (4, .pointer (some ⟨g4, 0, none⟩)), (5, v)]) (Sub.cons (rfl) (Sub.cons (rfl) (Sub.cons (rfl) (Sub.cons (rfl) (Sub.cons (rfl) (Sub.nil)))))) ?_
  obtain ⟨ao1, c1, rfl, hS1, hb1⟩ := ownsRow_form hO1
  have hln : (xs ++ [128] ++ List.replicate k (0 : UInt8)).length = xs.length + 1 + k := by simp; omega
  refine C.seq ?_
  refine C.seq ?_
  refine C.region ?_
  refine W.move rfl rfl ?_
  refine W.lenS rfl Try.underlying24 rfl ?_
  first | refine W.addI rfl rfl (by omega) rfl ?_ | refine W.addW rfl rfl rfl ?_
  first | refine W.remI rfl rfl (by omega) rfl ?_ | refine W.remW rfl rfl (by omega) rfl ?_
  refine W.gtrI rfl rfl rfl ?_
  refine W.nil ?_
  refine At.thenCode ?_
  first | refine C.condD rfl (fun c26 => ?_) (fun c26 => ?_) | refine C.cond rfl (fun c26 => ?_) (fun c26 => ?_)
  · refine C.skip ?_
    refine At.thenCode ?_
    refine C.block ?_
    refine C.region ?_
    refine W.move rfl rfl ?_
    refine W.litB [0] E8 Try.underlying24 rfl rfl rfl rfl rfl ?_
    intro g13 w13 hg13 hX13 _ hb13
    have ho13 := ownsRow_ext hO1 hX13
    refine W.appendB E8 Try.underlying24 rfl rfl ho13 hb13 (by rw [hln, List.length_singleton]; omega) (by have := hX1.size; have := hX13.size; omega) rfl ?_
    intro v14 w14 ho14 hg14 _
    have hX14 : Ext w6 w14 := (hX1.ext hX13).news (Chg.of_grown hg14) (fun k hk => Or.inr ((World.ownsRow.lt ho13 k hk.symm).1))
    refine W.assign rfl rfl ?_
    refine W.nil ?_
    refine At.blockNormal ?_
    refine At.thenRound (k + 1, v14) (Sub.cons (rfl) (Sub.cons (rfl) (Sub.cons (rfl) (Sub.cons (rfl) (Sub.cons (rfl) (Sub.nil)))))) (show Ext w6 _ ∧ (k + 1) ≤ padZ xs.length ∧ Ow _ w6.heap.size 5 (v14) (xs ++ [128] ++ List.replicate (k + 1) 0) from ?_) (show padZ xs.length - (k + 1) < padZ xs.length - k from ?_)
    · refine ⟨hX14, by omega, ?_⟩
      rw [rep_snoc, ← List.append_assoc]
      exact ho14
    · omega
  · refine C.exit ?_
    refine At.thenExit ?_
    refine At.thenExit ?_
    refine At.blockSelf ?_
    refine At.thenCode ?_
    refine C.seq ?_
    refine C.region ?_
    refine W.move rfl rfl ?_
    refine W.move rfl rfl ?_
    refine W.lenS rfl Try.underlying24 rfl ?_
    refine W.convIN (M := 18446744073709551616) rfl Try.underlying3 Try.underlying32 rfl rfl (by omega) rfl ?_
    refine W.shlU (M := 18446744073709551616) (B := 64) (s := 3) rfl rfl rfl rfl rfl rfl ?_
    have hS0 := hS.ext (hX6.ext hX1)
    obtain rfl : k = padZ xs.length := by omega
    refine W.call Try.call58 rfl (Words.RPut64_ok _ _ _ _ _ hS1 (by rw [hln]; omega)) rfl ?_
    rintro v35 w35 ⟨hO35, hX35⟩
    have hO35 := ownsRow_base hO35 hX1.size
    have e : shlM 18446744073709551616 64 ((xs.length : Int).toNat) 3 = xs.length * 8 := by
      unfold shlM
      rw [Int.toNat_natCast, show min 3 64 = 3 from rfl, show (2 : Nat) ^ 3 = 8 from rfl]
      omega
    rw [e] at hO35
    obtain ⟨al, hal⟩ : ∃ al, al = padV xs := ⟨_, rfl⟩
    have hal0 : al.length % 64 = 0 := by rw [hal]; exact padV_mod xs
    have hal1 : al.length ≤ xs.length + 72 := by rw [hal]; exact padV_le xs
    have hO35 : Ow w35 w6.heap.size 5 v35 al := by rw [hal]; exact hO35
    obtain ⟨ao5, c5, rfl, hS5, hb5⟩ := ownsRow_form hO35
    have hX35 := hX1.ext hX35
    have hlt4 := hB4.lt
    refine W.assign rfl rfl ?_
    refine W.nil ?_
    refine At.thenCode ?_
    refine C.seq ?_
    refine C.block ?_
    refine C.loop (X := Nat × (Option Addr) × Nat) (fun x_ => [(2, .pointer (some ⟨g2, 0, none⟩)), (3, .slice ao15 64 c15), (4, .pointer (some ⟨g4, 0, none⟩)), (5, .slice x_.2.1 (al.drop (64 * x_.1)).length x_.2.2)]) (fun x_ w2 => Ext w w2 ∧ Bs w2 x_.2.1 x_.2.2 (al.drop (64 * x_.1)) ∧ (∀ ad, x_.2.1 = some ad → g4 < ad.block) ∧ 64 * x_.1 ≤ al.length ∧ Sl w2 ao15 64 c15 1 (shaK.map u32V) ∧ Bk w2 g2 (List.replicate 32 (byteV 0)) ∧ Bk w2 g4 ((blkH al x_.1).map u32V)) (fun x_ => al.length - 64 * x_.1) (0, ao5, c5) (Sub.cons (rfl) (Sub.cons (rfl) (Sub.cons (rfl) (Sub.cons (rfl) (Sub.nil))))) ?start2 ?_
    case start2 =>
      show Ext w _ ∧ Bs _ (ao5) (c5) (al.drop (64 * (0))) ∧ (∀ ad, (ao5) = some ad → g4 < ad.block) ∧ 64 * (0) ≤ al.length ∧ Sl _ ao15 64 c15 1 (shaK.map u32V) ∧ Bk _ g2 (List.replicate 32 (byteV 0)) ∧ Bk _ g4 ((blkH al (0)).map u32V)
      exact ⟨hX6.ext hX35, hS5, fun ad e => by have := hb5 ad e; omega, by omega, hSK.ext hX35, hB2.ext hX35, hB4.ext hX35⟩
    rintro ⟨j, ap, cq⟩ w2 hI_
    replace hI_ : Ext w w2 ∧ Bs w2 ap cq (al.drop (64 * j)) ∧ (∀ ad, ap = some ad → g4 < ad.block) ∧ 64 * j ≤ al.length ∧ Sl w2 ao15 64 c15 1 (shaK.map u32V) ∧ Bk w2 g2 (List.replicate 32 (byteV 0)) ∧ Bk w2 g4 ((blkH al j).map u32V) := hI_
    obtain ⟨hX2, hSa, hbp, hj, hSK, hB2, hB4⟩ := hI_
    refine C.weaken (l' := [(2, .pointer (some ⟨g2, 0, none⟩)), (3, .slice ao15 64 c15), (4, .pointer (some ⟨g4, 0, none⟩)), (5, .slice ap (al.drop (64 * j)).length cq)]) (Sub.cons (rfl) (Sub.cons (rfl) (Sub.cons (rfl) (Sub.cons (rfl) (Sub.nil))))) ?_
    refine C.seq ?_
    refine C.seq ?_
    refine C.region ?_
    refine W.move rfl rfl ?_
    refine W.lenS rfl Try.underlying24 rfl ?_
    refine W.gtrI rfl rfl rfl ?_
    refine W.nil ?_
    refine At.thenCode ?_
    first | refine C.condD rfl (fun c38 => ?_) (fun c38 => ?_) | refine C.cond rfl (fun c38 => ?_) (fun c38 => ?_)
    · have hdl : (al.drop (64 * j)).length = al.length - 64 * j := List.length_drop
      have h64 : 64 * j + 64 ≤ al.length := by omega
      obtain ⟨bl, hbl⟩ : ∃ bl, bl = (al.drop (64 * j)).take 64 := ⟨_, rfl⟩
      have hwl := wordsOf_length bl
      refine C.skip ?_
      refine At.thenCode ?_
      refine C.block ?_
      refine C.seq ?_
      refine C.region ?_
      refine W.alloc (z := .agg (List.replicate 64 (u32V 0)).toArray) (List.replicate 64 (u32V 0)) (by kernel_rfl) rfl rfl ?_
      intro g6 w7 hg6 hX7 hB6
      have hl2' := hX2.size
      have hlb4 := hB4.lt
      have hlb2 := hB2.lt
      have hn6 : g6 ≠ g2 ∧ g6 ≠ g4 ∧ w.heap.size ≤ g6 := by omega
      refine W.nil ?_
      refine At.thenCode ?_
      refine C.seq ?_
      refine C.seq ?_
      refine C.region ?_
      refine W.assign rfl rfl ?_
      refine W.nil ?_
      refine At.thenCode ?_
      refine C.block ?_
      refine C.loop (X := Nat) (fun x_ => [(2, .pointer (some ⟨g2, 0, none⟩)), (3, .slice ao15 64 c15), (4, .pointer (some ⟨g4, 0, none⟩)), (5, .slice ap (al.drop (64 * j)).length cq), (6, .pointer (some ⟨g6, 0, none⟩)), (7, .int .i64 (x_ : Int))]) (fun x_ w3 => Ext w2 w3 ∧ x_ ≤ 16 ∧ Bk w3 g6 (part64 ((wordsOf bl).take x_))) (fun x_ => 16 - x_) (0) (Sub.cons (rfl) (Sub.cons (rfl) (Sub.cons (rfl) (Sub.cons (rfl) (Sub.cons (rfl) (Sub.cons (rfl) (Sub.nil))))))) ?start3 ?_
      case start3 =>
        show Ext w2 _ ∧ (0) ≤ 16 ∧ Bk _ g6 (part64 ((wordsOf bl).take (0)))
        exact ⟨hX7, by omega, hB6⟩
      rintro i w3 hI_
      replace hI_ : Ext w2 w3 ∧ i ≤ 16 ∧ Bk w3 g6 (part64 ((wordsOf bl).take i)) := hI_
      obtain ⟨hX3, hi, hB6⟩ := hI_
      refine C.weaken (l' := [(2, .pointer (some ⟨g2, 0, none⟩)), (3, .slice ao15 64 c15), (4, .pointer (some ⟨g4, 0, none⟩)), (5, .slice ap (al.drop (64 * j)).length cq), (6, .pointer (some ⟨g6, 0, none⟩)), (7, .int .i64 (i : Int))]) (Sub.cons (rfl) (Sub.cons (rfl) (Sub.cons (rfl) (Sub.cons (rfl) (Sub.cons (rfl) (Sub.cons (rfl) (Sub.nil))))))) ?_
      refine C.seq ?_
      refine C.seq ?_
      refine C.region ?_
      refine W.move rfl rfl ?_
      refine W.lssI rfl rfl rfl ?_
      refine W.nil ?_
      refine At.thenCode ?_
      first | refine C.condD rfl (fun c40 => ?_) (fun c40 => ?_) | refine C.cond rfl (fun c40 => ?_) (fun c40 => ?_)
      · have htl : ((wordsOf bl).take i).length = i := by rw [List.length_take]; omega
        refine C.skip ?_
        refine At.thenCode ?_
        refine C.seq ?_
        refine C.block ?_
        refine C.seq ?_
        refine C.region ?_
        refine W.move rfl rfl ?_
        refine W.move rfl rfl ?_
        refine W.mulI rfl rfl (by omega) rfl ?_
        rw [show (4 : Int) * (i : Int) = ((4 * i : Nat) : Int) by omega]
        refine W.call Try.call72 rfl (Words.RGet32_ok _ _ _ _ _ (hSa.ext hX3) (by omega) (by omega)) rfl ?_
        rintro v w' ⟨rfl, rfl⟩
        rw [getV_take (by omega) (by omega), ← hbl, ← wordsOf_get bl (by omega)]
        refine W.move rfl rfl ?_
        refine W.extract rfl rfl rfl ?_
        refine W.extract rfl rfl rfl ?_
        refine W.assign rfl rfl ?_
        refine W.assign rfl rfl ?_
        refine W.nil ?_
        refine At.thenCode ?_
        refine C.region ?_
        refine W.move rfl rfl ?_
        refine W.move rfl rfl ?_
        refine W.indexA1 Words.X32 Try.underlying91 rfl rfl (by first | omega | decide) rfl ?_
        refine W.store1 rfl rfl rfl hB6 (by rw [part64_length (by omega)]; omega) (by kernel_rfl) ?_
        intro w9 hc9 hB9
        have hB9' : Bk w9 g6 (part64 ((wordsOf bl).take (i + 1))) := by
          have := part64_set (l := (wordsOf bl).take i) (by omega) ((wordsOf bl).getD i 0)
          rw [htl] at this
          have e2 : (wordsOf bl).take (i + 1) = (wordsOf bl).take i ++ [(wordsOf bl).getD i 0] := by
            rw [List.take_succ_eq_append_getElem (by omega)]
            simp [List.getD, show i < (wordsOf bl).length by omega]
          rw [e2, ← this]
          exact hB9
        refine W.nil ?_
        refine At.blockNormal ?_
        refine At.thenCode ?_
        refine C.region ?_
        refine W.move rfl rfl ?_
        first | refine W.addI rfl rfl (by omega) rfl ?_ | refine W.addW rfl rfl rfl ?_
        refine W.assign rfl rfl ?_
        refine W.nil ?_
        refine At.thenRound (i + 1) (Sub.cons (rfl) (Sub.cons (rfl) (Sub.cons (rfl) (Sub.cons (rfl) (Sub.cons (rfl) (Sub.cons (look_eq rfl (by rw [show (i : Int) + 1 = ((i + 1 : Nat) : Int) by omega])) (Sub.nil))))))) (show Ext w2 _ ∧ (i + 1) ≤ 16 ∧ Bk _ g6 (part64 ((wordsOf bl).take (i + 1))) from ?_) (show 16 - (i + 1) < 16 - i from ?_)
        · exact ⟨hX3.news hc9 (fun k hk => Or.inr (by omega)), by omega, hB9'⟩
        · omega
      · obtain rfl : i = 16 := by omega
        rw [List.take_of_length_le (by omega)] at hB6
        refine C.exit ?_
        refine At.thenExit ?_
        refine At.thenExit ?_
        refine At.blockSelf ?_
        refine At.thenCode ?_
        refine C.seq ?_
        refine C.region ?_
        refine W.loadA rfl ((hB4.ext hX3).cells (o := 0)) Try.underlying88 rfl (by rw [List.drop_zero, List.length_map, blkH_length]; kernel_rfl) rfl ?_
        refine W.loadA rfl (hB6.cells (o := 0)) Try.underlying91 rfl (by rw [List.drop_zero, part64_length (by omega)]; kernel_rfl) rfl ?_
        refine W.move rfl rfl ?_
        refine W.call Try.call73 rfl (mixed_ok (blkH_length al j) (blkH_lt al j) hwl (wordsOf_lt bl) _ _ _ (hSK.ext hX3)) rfl ?_
        rintro v56 w56 ⟨rfl, hX56⟩
        refine W.storeA ((blkH al (j + 1)).map u32V) rfl (by rw [hbl]; rfl) ((hB4.ext hX3).ext hX56) (by rw [List.length_map, List.length_map, blkH_length, blkH_length]) (by rw [List.length_map, blkH_length]; kernel_rfl) (u32_oneCell _) ?_
        intro w57 hc57 hB57
        refine W.nil ?_
        refine At.thenCode ?_
        refine C.region ?_
        refine W.move rfl rfl ?_
        have hS57 := ((hSa.ext hX3).ext hX56).chg hc57 (fun ad e _ hk => by have := hbp ad e; omega)
        refine W.slice (lo := 64) (hi := (al.drop (64 * j)).length) E8 Try.underlying24 rfl hS57 (.inr ⟨_, _, rfl, rfl⟩) (.inl ⟨rfl, rfl⟩) (by omega) (by omega) rfl ?_
        intro ao58 c58 hS58 hblk58
        have hlen58 : (al.drop (64 * (j + 1))).length = (al.drop (64 * j)).length - 64 := by rw [List.length_drop, List.length_drop]; omega
        have hS58 : Bs w57 ao58 c58 (al.drop (64 * (j + 1))) := by
          show Sl _ _ _ _ _ _
          rw [hlen58]
          rw [Nat.mul_one, Nat.mul_one, ← List.map_drop, ← List.map_take, List.take_of_length_le (by rw [List.length_drop]; omega), List.drop_drop] at hS58
          exact hS58
        rw [← hlen58]
        refine W.assign rfl rfl ?_
        refine W.nil ?_
        refine At.blockNormal ?_
        refine At.thenRound (j + 1, ao58, c58) (Sub.cons (rfl) (Sub.cons (rfl) (Sub.cons (rfl) (Sub.cons (rfl) (Sub.nil))))) (show Ext w _ ∧ Bs _ (ao58) (c58) (al.drop (64 * (j + 1))) ∧ (∀ ad, (ao58) = some ad → g4 < ad.block) ∧ 64 * (j + 1) ≤ al.length ∧ Sl _ ao15 64 c15 1 (shaK.map u32V) ∧ Bk _ g2 (List.replicate 32 (byteV 0)) ∧ Bk _ g4 ((blkH al (j + 1)).map u32V) from ?_) (show al.length - 64 * (j + 1) < al.length - 64 * j from ?_)
        · refine ⟨((hX2.ext hX3).ext hX56).news hc57 (fun k hk => Or.inr (by omega)), hS58, fun ad e => ?_, by omega, ((hSK.ext hX3).ext hX56).chg hc57 (fun ad e _ hk => by have := hKlt ad e; omega), ((hB2.ext hX3).ext hX56).chg hc57 (by omega), hB57⟩
          obtain ⟨a, ha1, ha2⟩ := hblk58 ad e
          rw [ha2]; exact hbp a ha1
        · omega
    · have hdl : (al.drop (64 * j)).length = al.length - 64 * j := List.length_drop
      have hjn : j = al.length / 64 := by omega
      have hHl := blkH_length al j
      obtain ⟨H, hH⟩ : ∃ H, H = blkH al j := ⟨_, rfl⟩
      rw [← hH] at hB4 hHl
      refine C.exit ?_
      refine At.thenExit ?_
      refine At.thenExit ?_
      refine At.blockSelf ?_
      refine At.thenCode ?_
      refine C.seq ?_
      refine C.region ?_
      refine W.assign rfl rfl ?_
      refine W.nil ?_
      refine At.thenCode ?_
      refine C.seq ?_
      refine C.seq ?_
      refine C.region ?_
      refine W.assign rfl rfl ?_
      refine W.nil ?_
      refine At.thenCode ?_
      refine C.block ?_
      refine C.loop (X := Nat × Value) (fun x_ => [(2, .pointer (some ⟨g2, 0, none⟩)), (4, .pointer (some ⟨g4, 0, none⟩)), (10, x_.2), (11, .int .i64 (x_.1 : Int))]) (fun x_ w4 => Ext w w4 ∧ x_.1 ≤ 8 ∧ Bk w4 g2 (List.replicate 32 (byteV 0)) ∧ Bk w4 g4 (H.map u32V) ∧ ∃ b, Ow w4 b 5 x_.2 (be32L (H.take x_.1))) (fun x_ => 8 - x_.1) (0, .slice none 0 0) (Sub.cons (rfl) (Sub.cons (rfl) (Sub.cons (rfl) (Sub.cons (rfl) (Sub.nil))))) ?start4 ?_
      case start4 =>
        show Ext w _ ∧ (0) ≤ 8 ∧ Bk _ g2 (List.replicate 32 (byteV 0)) ∧ Bk _ g4 (H.map u32V) ∧ ∃ b, Ow _ b 5 (.slice none 0 0) (be32L (H.take (0)))
        exact ⟨hX2, by omega, hB2, hB4, 0, Ow.nil _ _ _⟩
      rintro ⟨i, v⟩ w4 hI_
      replace hI_ : Ext w w4 ∧ i ≤ 8 ∧ Bk w4 g2 (List.replicate 32 (byteV 0)) ∧ Bk w4 g4 (H.map u32V) ∧ ∃ b, Ow w4 b 5 v (be32L (H.take i)) := hI_
      obtain ⟨hX4, hi, hB2, hB4, b4', hO4⟩ := hI_
      refine C.weaken (l' := [(2, .pointer (some ⟨g2, 0, none⟩)), (4, .pointer (some ⟨g4, 0, none⟩)), (10, v), (11, .int .i64 (i : Int))]) (Sub.cons (rfl) (Sub.cons (rfl) (Sub.cons (rfl) (Sub.cons (rfl) (Sub.nil))))) ?_
      obtain ⟨ao4, c4, rfl, hS4, hb4'⟩ := ownsRow_form hO4
      have hbl := be32L_length (H.take i)
      rw [List.length_take] at hbl
      refine C.seq ?_
      refine C.seq ?_
      refine C.region ?_
      refine W.move rfl rfl ?_
      refine W.lssI rfl rfl rfl ?_
      refine W.nil ?_
      refine At.thenCode ?_
      first | refine C.condD rfl (fun c60 => ?_) (fun c60 => ?_) | refine C.cond rfl (fun c60 => ?_) (fun c60 => ?_)
      · refine C.skip ?_
        refine At.thenCode ?_
        refine C.seq ?_
        refine C.block ?_
        refine C.region ?_
        refine W.move rfl rfl ?_
        refine W.move rfl rfl ?_
        refine W.indexA1 Words.X32 Try.underlying88 rfl rfl (by first | omega | decide) rfl ?_
        refine W.loadB rfl Try.underlying84 rfl hB4 (map_get (by omega)) rfl ?_
        refine W.call Try.call74 rfl (Words.RPut32_ok _ _ _ _ _ hS4 (by omega)) rfl ?_
        rintro v67 w67 ⟨hO67, hX67⟩
        refine W.assign rfl rfl ?_
        refine W.nil ?_
        refine At.blockNormal ?_
        refine At.thenCode ?_
        refine C.region ?_
        refine W.move rfl rfl ?_
        first | refine W.addI rfl rfl (by omega) rfl ?_ | refine W.addW rfl rfl rfl ?_
        refine W.assign rfl rfl ?_
        refine W.nil ?_
        refine At.thenRound (i + 1, v67) (Sub.cons (rfl) (Sub.cons (rfl) (Sub.cons (rfl) (Sub.cons (look_eq rfl (by rw [show (i : Int) + 1 = ((i + 1 : Nat) : Int) by omega])) (Sub.nil))))) (show Ext w _ ∧ (i + 1) ≤ 8 ∧ Bk _ g2 (List.replicate 32 (byteV 0)) ∧ Bk _ g4 (H.map u32V) ∧ ∃ b, Ow _ b 5 (v67) (be32L (H.take (i + 1))) from ?_) (show 8 - (i + 1) < 8 - i from ?_)
        · refine ⟨hX4.ext hX67, by omega, hB2.ext hX67, hB4.ext hX67, w4.heap.size, ?_⟩
          have e : H.take (i + 1) = H.take i ++ [H.getD i 0] := by
            rw [List.take_succ_eq_append_getElem (by omega)]
            simp [List.getD, show i < H.length by omega]
          rw [e, be32L_snoc]
          exact hO67
        · omega
      · obtain rfl : i = 8 := by omega
        rw [List.take_of_length_le (by omega)] at hO4 hS4 hbl
        rw [List.take_of_length_le (by omega)]
        have hbl32 : (be32L H).length = 32 := by rw [be32L_length, hHl]
        have hsv : shaV xs = be32L H := by rw [shaV, ← hal, hH, hjn]
        obtain ⟨out, hout⟩ : ∃ out, out = be32L H := ⟨_, rfl⟩
        rw [← hout] at hS4 hbl32 ⊢
        refine C.exit ?_
        refine At.thenExit ?_
        refine At.thenExit ?_
        refine At.blockSelf ?_
        refine At.thenCode ?_
        refine C.seq ?_
        refine C.region ?_
        refine W.alloc (z := .agg (List.replicate 32 (byteV 0)).toArray) (List.replicate 32 (byteV 0)) (by kernel_rfl) rfl rfl ?_
        intro g12 w12 hg12 hX12 hB12
        have hlb2 := hB2.lt
        have hn12 : g12 ≠ g2 ∧ w.heap.size ≤ g12 := by have := hX4.size; omega
        refine W.nil ?_
        refine At.thenCode ?_
        refine C.seq ?_
        refine C.seq ?_
        refine C.region ?_
        refine W.assign rfl rfl ?_
        refine W.nil ?_
        refine At.thenCode ?_
        refine C.block ?_
        refine C.loop (X := Nat) (fun x_ => [(2, .pointer (some ⟨g2, 0, none⟩)), (10, .slice ao4 out.length c4), (12, .pointer (some ⟨g12, 0, none⟩)), (13, .int .i64 (x_ : Int))]) (fun x_ w5 => Ext w4 w5 ∧ x_ ≤ 32 ∧ Bk w5 g12 (part32 (out.take x_))) (fun x_ => 32 - x_) (0) (Sub.cons (rfl) (Sub.cons (rfl) (Sub.cons (rfl) (Sub.cons (rfl) (Sub.nil))))) ?start5 ?_
        case start5 =>
          show Ext w4 _ ∧ (0) ≤ 32 ∧ Bk _ g12 (part32 (out.take (0)))
          exact ⟨hX12, by omega, hB12⟩
        rintro i w5 hI_
        replace hI_ : Ext w4 w5 ∧ i ≤ 32 ∧ Bk w5 g12 (part32 (out.take i)) := hI_
        obtain ⟨hX5, hi, hB12⟩ := hI_
        refine C.weaken (l' := [(2, .pointer (some ⟨g2, 0, none⟩)), (10, .slice ao4 out.length c4), (12, .pointer (some ⟨g12, 0, none⟩)), (13, .int .i64 (i : Int))]) (Sub.cons (rfl) (Sub.cons (rfl) (Sub.cons (rfl) (Sub.cons (rfl) (Sub.nil))))) ?_
        refine C.seq ?_
        refine C.seq ?_
        refine C.region ?_
        refine W.move rfl rfl ?_
        refine W.lssI rfl rfl rfl ?_
        refine W.nil ?_
        refine At.thenCode ?_
        first | refine C.condD rfl (fun c69 => ?_) (fun c69 => ?_) | refine C.cond rfl (fun c69 => ?_) (fun c69 => ?_)
        · have hlt : i < out.length := by omega
          have htl : (out.take i).length = i := by rw [List.length_take]; omega
          refine C.skip ?_
          refine At.thenCode ?_
          refine C.seq ?_
          refine C.block ?_
          refine C.region ?_
          refine W.move rfl rfl ?_
          refine W.move rfl rfl ?_
          refine W.move rfl rfl ?_
          refine W.idx (v := byteV (out[i]'hlt)) E8 Try.underlying24 Try.underlying5 rfl rfl (hS4.ext hX5) rfl (by omega) ?_ rfl rfl ?_
          · exact get_byte hlt
          intro p75
          -- read with the address
          refine W.indexA1 Words.X8 Try.underlying23 rfl rfl (by first | omega | decide) rfl ?_
          refine W.store1 rfl rfl rfl hB12 (by rw [part32_length (by omega)]; omega) (by kernel_rfl) ?_
          intro w9 hc9 hB9
          have hB9' : Bk w9 g12 (part32 (out.take (i + 1))) := by
            have := part32_set (l := out.take i) (by omega) (out[i]'hlt)
            rw [htl] at this
            rw [List.take_succ_eq_append_getElem hlt, ← this]
            exact hB9
          refine W.nil ?_
          refine At.blockNormal ?_
          refine At.thenCode ?_
          refine C.region ?_
          refine W.move rfl rfl ?_
          first | refine W.addI rfl rfl (by omega) rfl ?_ | refine W.addW rfl rfl rfl ?_
          refine W.assign rfl rfl ?_
          refine W.nil ?_
          refine At.thenRound (i + 1) (Sub.cons (rfl) (Sub.cons (rfl) (Sub.cons (rfl) (Sub.cons (look_eq rfl (by rw [show (i : Int) + 1 = ((i + 1 : Nat) : Int) by omega])) (Sub.nil))))) (show Ext w4 _ ∧ (i + 1) ≤ 32 ∧ Bk _ g12 (part32 (out.take (i + 1))) from ?_) (show 32 - (i + 1) < 32 - i from ?_)
          · exact ⟨hX5.news hc9 (fun k hk => Or.inr (by omega)), by omega, hB9'⟩
          · omega
        · obtain rfl : i = 32 := by omega
          rw [List.take_of_length_le (by omega), part32_full hbl32] at hB12
          refine C.exit ?_
          refine At.thenExit ?_
          refine At.thenExit ?_
          refine At.blockSelf ?_
          refine At.thenCode ?_
          refine C.seq ?_
          refine C.region ?_
          refine W.loadA rfl (hB12.cells (o := 0)) Try.underlying23 rfl (by rw [List.drop_zero, List.length_map, hbl32]; kernel_rfl) rfl ?_
          refine W.storeA (out.map byteV) rfl rfl (hB2.ext hX5) (by rw [List.length_map, hbl32]; rfl) (by rw [List.length_map, hbl32]; kernel_rfl) (bytes_oneCell _) ?_
          intro wz hcz hBz
          refine W.nil ?_
          refine At.thenCode ?_
          refine C.ret ?_
          -- RESULT IN A CELL
          refine At.retC Try.results47 rfl (hBz.cells (o := 0)) Try.underlying23 rfl (by rw [List.drop_zero, List.length_map, hbl32]; kernel_rfl) ⟨?_, ?_⟩
          · rw [hsv, ← hout]; rfl
          · exact (hX4.ext hX5).news hcz (fun k hk => Or.inr (by omega))

/-! ### Parts -/
theorem EB : Elem Try.prog 24 1 24 (.slice none 0 0) := Elem.of (by kernel_rfl) rfl rfl
def partsV : List (List UInt8) → List UInt8
  | [] => []
  | x :: r => be64 x.length ++ x ++ partsV r
theorem partsV_append (a b : List (List UInt8)) : partsV (a ++ b) = partsV a ++ partsV b := by
  induction a with
  | nil => rfl
  | cons x r ih => simp only [List.cons_append, partsV, ih, List.append_assoc]
theorem partsV_take {ls : List (List UInt8)} {i : Nat} (h : i < ls.length) : partsV (ls.take (i + 1)) = partsV (ls.take i) ++ be64 (ls[i]'h).length ++ ls[i]'h := by
  rw [List.take_succ_eq_append_getElem h, partsV_append]
  simp [partsV]
theorem partsV_le (ls : List (List UInt8)) (i : Nat) : (partsV (ls.take i)).length ≤ (partsV ls).length := by
  have e : partsV ls = partsV (ls.take i) ++ partsV (ls.drop i) := by rw [← partsV_append, List.take_append_drop]
  rw [e, List.length_append]; omega

end Go.Proofs.Ytkjmllohbohliaa.RSha
