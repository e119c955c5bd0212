/- The reference's Sha: its walks. The writer of package codec: what its calls leave. Function values: literals that capture, and calls of them. Chapter 11's data in memory: entries, letters, submissions, batches, notes. Package codec's functions that write. Package codec's functions that write: notes, submissions, batches. -/
import Derived.Test.YthiijdbiikljpaaGreatZc
import Derived.Test.YthiijdbiikljpaaGreatZd
namespace Go.Proofs.YthiijdbiikljpaaGreat.RSha
open Go Go.RowKit Go.Proofs.YthiijdbiikljpaaGreat.KW Go.Proofs.YthiijdbiikljpaaGreat.Words Go.Proofs.YthiijdbiikljpaaGreat.Sha
set_option linter.unusedVariables false
set_option linter.unusedSimpArgs false
set_option maxRecDepth 100000
def Lt32 (l : List Nat) : Prop := ∀ x ∈ l, x < 4294967296
theorem Lt32.get {l : List Nat} (h : Lt32 l) (j : Nat) : l.getD j 0 < 4294967296 := by
 simp only [List.getD]
 cases hj : l[j]? with
 | none => decide
 | some x => exact h x (List.mem_of_getElem? hj)
theorem addM_lt32 (a b : Nat) : addM 4294967296 a b < 4294967296 := Nat.mod_lt _ (by decide)
theorem Lt32.snoc {l : List Nat} (h : Lt32 l) {x : Nat} (hx : x < 4294967296) : Lt32 (l ++ [x]) := by
 intro y hy
 rcases List.mem_append.1 hy with hy | hy
 exact h y hy
 simp at hy; subst hy; exact hx
theorem sch_lt {ws : List Nat} (h : Lt32 ws) : ∀ i, Lt32 (sch ws i) := by
 intro i
 induction i with
 | zero => intro x hx; cases hx
 | succ i ih =>
   rw [sch]
   refine ih.snoc ?_
   split
   exact h.get i
   exact addM_lt32 _ _
theorem stepL_lt {l : List Nat} (hl : l.length = 8) (h : Lt32 l) (k : Nat) : Lt32 (stepL l k) := by
 obtain ⟨a, b, c, d, e, f, g, i, rfl⟩ := eight hl
 intro x hx
 simp only [stepL, List.mem_cons, List.not_mem_nil, or_false] at hx
 have hm : ∀ y ∈ [a, b, c, d, e, f, g, i], y < 4294967296 := h
 rcases hx with rfl | rfl | rfl | rfl | rfl | rfl | rfl | rfl
 exact addM_lt32 _ _
 exact hm _ (by simp)
 exact hm _ (by simp)
 exact hm _ (by simp)
 exact addM_lt32 _ _
 exact hm _ (by simp)
 exact hm _ (by simp)
 exact hm _ (by simp)
theorem rnd_lt {hs : List Nat} (hl : hs.length = 8) (h : Lt32 hs) (ks ws : List Nat) : ∀ i, Lt32 (rnd hs ks ws i) := by
 intro i
 induction i with
 | zero => exact h
 | succ i ih => exact stepL_lt (rnd_length hl ks ws i) ih _
theorem addL_lt : ∀ (x y : List Nat), Lt32 (addL x y) := by
 intro x
 induction x with
 | nil => intro y z hz; cases y <;> cases hz
 | cons a r ih =>
   intro y
   cases y with
   | nil => intro z hz; cases hz
   | cons b q =>
     intro z hz
     rcases List.mem_cons.1 hz with rfl | hz
     exact addM_lt32 _ _
     exact ih q z hz
theorem blkH_lt (all : List UInt8) : ∀ j, Lt32 (blkH all j) := by
 intro j
 cases j with
 | zero => intro x hx; change x ∈ shaH at hx; revert x; decide
 | succ j => exact addL_lt _ _
theorem wordsOf_lt (b : List UInt8) : Lt32 (wordsOf b) := by
 intro x hx
 obtain ⟨j, _, rfl⟩ := List.mem_map.1 hx
 exact getV_lt _ _ 4
theorem sch_take {ws : List Nat} (h : ws.length = 16) : ∀ i, i ≤ 16 → sch ws i = ws.take i := by
 intro i
 induction i with
 | zero => intro _; simp [sch]
 | succ i ih =>
   intro hi
   rw [sch_low ws (by omega), ih (by omega), List.take_succ_eq_append_getElem (by omega)]
   simp [List.getD, show i < ws.length by omega]
theorem addM_assoc (a b c : Nat) : addM 4294967296 (addM 4294967296 a b) c = addM 4294967296 a (addM 4294967296 b c) := by
 unfold addM; omega
theorem addM_swap (p b x y : Nat) : addM 4294967296 (addM 4294967296 (addM 4294967296 p b) x) y = addM 4294967296 (addM 4294967296 (addM 4294967296 p x) b) y := by
 unfold addM; omega
def shf : List Nat → Nat → List Nat
  | [a, b, c, d, e, f, g, h], 7 => [a, b, c, d, e, f, g, h]
  | [a, b, c, d, e, f, g, h], 6 => [a, b, c, d, e, f, g, g]
  | [a, b, c, d, e, f, g, h], 5 => [a, b, c, d, e, f, f, g]
  | [a, b, c, d, e, f, g, h], 4 => [a, b, c, d, e, e, f, g]
  | [a, b, c, d, e, f, g, h], 3 => [a, b, c, d, d, e, f, g]
  | [a, b, c, d, e, f, g, h], 2 => [a, b, c, c, d, e, f, g]
  | [a, b, c, d, e, f, g, h], 1 => [a, b, b, c, d, e, f, g]
  | [a, b, c, d, e, f, g, h], _ => [a, a, b, c, d, e, f, g]
  | l, _ => l
theorem shf_step (a b c d e f g h : Nat) {k : Nat} (h0 : 0 < k) (h7 : k ≤ 7) : ∃ v, ((shf [a, b, c, d, e, f, g, h] k).map u32V)[k - 1]? = some (u32V v) ∧ ((shf [a, b, c, d, e, f, g, h] k).map u32V).set k (u32V v) = (shf [a, b, c, d, e, f, g, h] (k - 1)).map u32V := by
 rcases (show k = 1 ∨ k = 2 ∨ k = 3 ∨ k = 4 ∨ k = 5 ∨ k = 6 ∨ k = 7 by omega) with rfl | rfl | rfl | rfl | rfl | rfl | rfl <;> exact ⟨_, rfl, rfl⟩
theorem shf_length (a b c d e f g h : Nat) (k : Nat) (h7 : k ≤ 7) : (shf [a, b, c, d, e, f, g, h] k).length = 8 := by
 rcases (show k = 0 ∨ k = 1 ∨ k = 2 ∨ k = 3 ∨ k = 4 ∨ k = 5 ∨ k = 6 ∨ k = 7 by omega) with rfl | rfl | rfl | rfl | rfl | rfl | rfl | rfl <;> rfl
theorem turn_ok (x : Nat) (n : Int) (w : World) (hx : x < 4294967296) :
   Ct Tryz.prog 111 #[.int .u32 (x : Int), .int .i64 n] w (fun v w' => v = .int .u32 ((rotV x n : Nat) : Int) ∧ w = w') := by
 refine Ct.enter [(0, .int .u32 (x : Int)), (1, .int .i64 n)] Tryz.func111 rfl rfl rfl rfl ?_
 refine C.seq (C.region (W.assign rfl rfl (W.nil (At.thenCode (C.seq (C.region (W.move rfl rfl (W.move rfl rfl ?_))))))))
 refine W.call Tryz.call117 rfl (RRot_ok _ _ _ hx) rfl ?_
 rintro v w' ⟨rfl, rfl⟩
 refine W.assign rfl rfl (W.nil (At.thenCode (C.ret ?_)))
 refine At.ret1 Tryz.results111 rfl ?_
 exact ⟨rfl, rfl⟩
theorem mixed_ok {hs ws : List Nat} (hh : hs.length = 8) (hhl : Lt32 hs) (hws : ws.length = 16) (hwl : Lt32 ws) (ao : Option Addr) (cp : Nat) (w : World) (hS : Sl w ao 64 cp 1 (shaK.map u32V)) :
   Ct Tryz.prog 101 #[.agg (hs.map u32V).toArray, .agg (part64 ws).toArray, .slice ao 64 cp] w (fun v w' => v = .agg ((mixV hs shaK (sch ws 64)).map u32V).toArray ∧ Ext w w') := by
 refine Ct.enter [(0, .agg (hs.map u32V).toArray), (1, .agg (part64 ws).toArray), (2, .slice ao 64 cp)] Tryz.func101 rfl rfl rfl rfl ?_
 obtain ⟨K, hK⟩ : ∃ K, K = shaK := ⟨_, rfl⟩
 have hKl : K.length = 64 := by rw [hK]; rfl
 rw [← hK] at hS ⊢
 refine C.seq (C.region ?_)
 refine W.box (hs.map u32V) rfl rfl rfl ?_
 intro g3 w3 hg3 hX3 hB3
 have hs3 := hX3.size
 have hl3 := hB3.lt
 refine W.box (part64 ws) rfl rfl rfl ?_
 intro g4 w4 hg4 hX4 hB4
 have hs4 := hX4.size
 have hl4 := hB4.lt
 refine W.alloc (z := .agg (List.replicate 8 (u32V 0)).toArray) (List.replicate 8 (u32V 0)) (by kernel_rfl) rfl rfl ?_
 intro g6 w6 hg6 hX6 hB6
 have hs6 := hX6.size
 have hl6 := hB6.lt
 have hn34 : g3 ≠ g4 := by omega
 have hn36 : g3 ≠ g6 := by omega
 have hn46 : g4 ≠ g6 := by omega
 have hb3 : w.heap.size ≤ g3 := by omega
 have hb4 : w.heap.size ≤ g4 := by omega
 have hb6 : w.heap.size ≤ g6 := by omega
 refine W.nil (At.thenCode (C.seq (C.seq (C.region (W.assign rfl rfl (W.nil (At.thenCode (C.block ?_))))))))
 refine C.loop (X := Nat) (fun x_ => [(2, .slice ao 64 cp), (3, .pointer (some ⟨g3, 0, none⟩)), (4, .pointer (some ⟨g4, 0, none⟩)), (6, .pointer (some ⟨g6, 0, none⟩)), (7, .int .i64 (x_ : Int))]) (fun x_ w1 => Ext w w1 ∧ 16 ≤ x_ ∧ x_ ≤ 64 ∧ Bk w1 g3 (hs.map u32V) ∧ Bk w1 g4 (part64 (sch ws x_)) ∧ Bk w1 g6 (List.replicate 8 (u32V 0))) (fun x_ => 64 - x_) (16) (sc rfl (sc rfl (sc rfl (sc rfl (sc rfl (Sub.nil)))))) ?start1 ?_
 case start1 =>
   show Ext w _ ∧ 16 ≤ (16) ∧ (16) ≤ 64 ∧ Bk _ g3 (hs.map u32V) ∧ Bk _ g4 (part64 (sch ws (16))) ∧ Bk _ g6 (List.replicate 8 (u32V 0))
   exact ⟨(hX3.ext hX4).ext hX6, by omega, by omega, (hB3.ext hX4).ext hX6, by rw [sch_take hws 16 (by omega), List.take_of_length_le (by omega)]; exact hB4.ext hX6, hB6⟩
 rintro i w1 hI_
 replace hI_ : Ext w w1 ∧ 16 ≤ i ∧ i ≤ 64 ∧ Bk w1 g3 (hs.map u32V) ∧ Bk w1 g4 (part64 (sch ws i)) ∧ Bk w1 g6 (List.replicate 8 (u32V 0)) := hI_
 obtain ⟨hX1, hi1, hi, hB3, hB4, hB6⟩ := hI_
 refine C.weaken (l' := [(2, .slice ao 64 cp), (3, .pointer (some ⟨g3, 0, none⟩)), (4, .pointer (some ⟨g4, 0, none⟩)), (6, .pointer (some ⟨g6, 0, none⟩)), (7, .int .i64 (i : Int))]) (sc rfl (sc rfl (sc rfl (sc rfl (sc rfl (Sub.nil)))))) ?_
 refine C.seq (C.seq (C.region (W.move rfl rfl (W.lssI rfl rfl rfl (W.nil (At.thenCode ?_))))))
 refine C.condD rfl (fun c19 => ?_) (fun c19 => ?_)
 have hlen := sch_length ws i
 have hsl := sch_lt hwl i
 refine C.skip (At.thenCode (C.seq (C.block (C.seq (C.region (W.move rfl rfl ?_))))))
 refine W.subI rfl rfl (by omega) rfl ?_
 rw [show (i : Int) - 15 = ((i - 15 : Nat) : Int) by omega]
 refine W.indexA1 Words.X32 Tryz.underlying142 rfl rfl (by first | omega | decide) rfl ?_
 refine W.loadB rfl Tryz.underlying101 rfl hB4 (part64_get (by omega)) rfl ?_
 refine W.assign rfl rfl (W.nil (At.thenCode (C.seq (C.region (W.move rfl rfl ?_)))))
 refine W.subI rfl rfl (by omega) rfl ?_
 rw [show (i : Int) - 2 = ((i - 2 : Nat) : Int) by omega]
 refine W.indexA1 Words.X32 Tryz.underlying142 rfl rfl (by first | omega | decide) rfl ?_
 refine W.loadB rfl Tryz.underlying101 rfl hB4 (part64_get (by omega)) rfl ?_
 have hx15 := hsl.get (i - 15)
 have hx2 := hsl.get (i - 2)
 obtain ⟨x, hx⟩ : ∃ x, x = (sch ws i).getD (i - 15) 0 := ⟨_, rfl⟩
 obtain ⟨y, hy⟩ : ∃ y, y = (sch ws i).getD (i - 2) 0 := ⟨_, rfl⟩
 obtain ⟨p, hp⟩ : ∃ p, p = (sch ws i).getD (i - 16) 0 := ⟨_, rfl⟩
 obtain ⟨q, hq⟩ : ∃ q, q = (sch ws i).getD (i - 7) 0 := ⟨_, rfl⟩
 rw [← hx] at hx15
 rw [← hy] at hx2
 rw [← hx, ← hy]
 refine W.assign rfl rfl (W.nil (At.thenCode ?_))
 refine C.regionAny 29 (E_ (.int .i64 (i : Int)) :: E_ (.int .i64 (i : Int)) :: E_ (.int .i64 ((i - 16 : Nat) : Int)) :: E_ (.pointer (some ⟨g4, (i - 16 : Nat), none⟩)) :: E_ (.int .u32 (p : Int)) :: E_ (.int .i64 (i : Int)) :: E_ (.int .i64 ((i - 7 : Nat) : Int)) :: E_ (.pointer (some ⟨g4, (i - 7 : Nat), none⟩)) :: E_ (.int .u32 (q : Int)) :: E_ (.int .u32 ((addM 4294967296 p q : Nat) : Int)) :: E_ (.int .u32 (x : Int)) :: E_ (.int .u32 ((rotV x 7 : Nat) : Int)) :: E_ (.int .u32 (x : Int)) :: E_ (.int .u32 ((rotV x 18 : Nat) : Int)) :: E_ (.int .u32 ((xorM 4294967296 (rotV x 7) (rotV x 18) : Nat) : Int)) :: E_ (.int .u32 (x : Int)) :: E_ (.int .u32 ((shrM 32 x 3 : Nat) : Int)) :: E_ (.int .u32 ((xorM 4294967296 (xorM 4294967296 (rotV x 7) (rotV x 18)) (shrM 32 x 3) : Nat) : Int)) :: E_ (.int .u32 ((addM 4294967296 (addM 4294967296 p q) (xorM 4294967296 (xorM 4294967296 (rotV x 7) (rotV x 18)) (shrM 32 x 3)) : Nat) : Int)) :: E_ (.int .u32 (y : Int)) :: E_ (.int .u32 ((rotV y 17 : Nat) : Int)) :: E_ (.int .u32 (y : Int)) :: E_ (.int .u32 ((rotV y 19 : Nat) : Int)) :: E_ (.int .u32 ((xorM 4294967296 (rotV y 17) (rotV y 19) : Nat) : Int)) :: E_ (.int .u32 (y : Int)) :: E_ (.int .u32 ((shrM 32 y 10 : Nat) : Int)) :: E_ (.int .u32 ((xorM 4294967296 (xorM 4294967296 (rotV y 17) (rotV y 19)) (shrM 32 y 10) : Nat) : Int)) :: E_ (.int .u32 ((nextW p x q y : Nat) : Int)) :: E_ (.pointer (some ⟨g4, i, none⟩)) :: []) [(2, .slice ao 64 cp), (3, .pointer (some ⟨g3, 0, none⟩)), (4, .pointer (some ⟨g4, 0, none⟩)), (6, .pointer (some ⟨g6, 0, none⟩)), (7, .int .i64 (i : Int)), (8, .int .u32 (x : Int)), (9, .int .u32 (y : Int))] [] (sc rfl (sc rfl (sc rfl (sc rfl (sc rfl (sc rfl (sc rfl (Sub.nil)))))))) (Sub.nil) (sc rfl (sc rfl (sc rfl (sc rfl (sc rfl (sc rfl (sc rfl (Sub.nil)))))))) (by kernel_rfl) rfl rfl rfl (sN (sN (sN (sN (sN (sN (sN (sN (sN (sN (sN (sN (sN (sN (sN (sN (sN (sN (sN (sN (sN (sN (sN (sN (sN (sN (sN (sN (sN (trivial)))))))))))))))))))))))))))))) ?_ ?_
 refine And.intro (mB rfl rfl (fun _ => rfl) rfl) ?_
 refine And.intro (mB rfl rfl (fun _ => rfl) rfl) ?_
 refine And.intro ?_ ?_
 intro L_ w7 hX_ hs_ hf_ hd_
 obtain ⟨_, e1, rfl⟩ := hd_ 1 rfl
 refine W.s1 (e1 _ rfl) ?_
 refine W.subI rfl rfl (by omega) rfl ?_
 rw [show (i : Int) - 16 = ((i - 16 : Nat) : Int) by omega]
 exact W.e0 rfl
 refine And.intro ?_ ?_
 intro L_ w7 hX_ hs_ hf_ hd_
 obtain ⟨_, e2, rfl⟩ := hd_ 2 rfl
 refine W.s2 (hs_ 4 _ rfl) (e2 _ rfl) ?_
 refine W.indexA1 Words.X32 Tryz.underlying142 rfl rfl (by first | omega | decide) rfl ?_
 exact W.e0 rfl
 refine And.intro ?_ ?_
 intro L_ w7 hX_ hs_ hf_ hd_
 obtain ⟨_, e3, rfl⟩ := hd_ 3 rfl
 refine W.s1 (e3 _ rfl) ?_
 rw [hp]
 refine W.loadB rfl Tryz.underlying101 rfl (hB4.ext hX_) (part64_get (by omega)) rfl ?_
 exact W.e0 rfl
 refine And.intro (mB rfl rfl (fun _ => rfl) rfl) ?_
 refine And.intro ?_ ?_
 intro L_ w7 hX_ hs_ hf_ hd_
 obtain ⟨_, e5, rfl⟩ := hd_ 5 rfl
 refine W.s1 (e5 _ rfl) ?_
 refine W.subI rfl rfl (by omega) rfl ?_
 rw [show (i : Int) - 7 = ((i - 7 : Nat) : Int) by omega]
 exact W.e0 rfl
 refine And.intro ?_ ?_
 intro L_ w7 hX_ hs_ hf_ hd_
 obtain ⟨_, e6, rfl⟩ := hd_ 6 rfl
 refine W.s2 (hs_ 4 _ rfl) (e6 _ rfl) ?_
 refine W.indexA1 Words.X32 Tryz.underlying142 rfl rfl (by first | omega | decide) rfl ?_
 exact W.e0 rfl
 refine And.intro ?_ ?_
 intro L_ w7 hX_ hs_ hf_ hd_
 obtain ⟨_, e7, rfl⟩ := hd_ 7 rfl
 refine W.s1 (e7 _ rfl) ?_
 rw [hq]
 refine W.loadB rfl Tryz.underlying101 rfl (hB4.ext hX_) (part64_get (by omega)) rfl ?_
 exact W.e0 rfl
 refine And.intro ?_ ?_
 intro L_ w7 hX_ hs_ hf_ hd_
 obtain ⟨_, e4, rfl⟩ := hd_ 4 rfl
 obtain ⟨_, e8, rfl⟩ := hd_ 8 rfl
 refine W.s2 (e4 _ rfl) (e8 _ rfl) ?_
 refine W.addU (M := 4294967296) rfl rfl rfl rfl rfl ?_
 exact W.e0 rfl
 refine And.intro (mB rfl rfl (fun _ => rfl) rfl) ?_
 refine And.intro ?_ ?_
 intro L_ w7 hX_ hs_ hf_ hd_
 obtain ⟨_, e10, rfl⟩ := hd_ 10 rfl
 refine W.s1 (e10 _ rfl) ?_
 refine W.call Tryz.call111 rfl (turn_ok _ _ _ (by first | assumption | (apply Lt32.get; assumption))) rfl ?_
 rintro v w' ⟨rfl, rfl⟩
 exact W.e0 rfl
 refine And.intro (mB rfl rfl (fun _ => rfl) rfl) ?_
 refine And.intro ?_ ?_
 intro L_ w7 hX_ hs_ hf_ hd_
 obtain ⟨_, e12, rfl⟩ := hd_ 12 rfl
 refine W.s1 (e12 _ rfl) ?_
 refine W.call Tryz.call111 rfl (turn_ok _ _ _ (by first | assumption | (apply Lt32.get; assumption))) rfl ?_
 rintro v w' ⟨rfl, rfl⟩
 exact W.e0 rfl
 refine And.intro ?_ ?_
 intro L_ w7 hX_ hs_ hf_ hd_
 obtain ⟨_, e11, rfl⟩ := hd_ 11 rfl
 obtain ⟨_, e13, rfl⟩ := hd_ 13 rfl
 refine W.s2 (e11 _ rfl) (e13 _ rfl) ?_
 refine W.xorU (M := 4294967296) rfl rfl rfl rfl rfl ?_
 exact W.e0 rfl
 refine And.intro (mB rfl rfl (fun _ => rfl) rfl) ?_
 refine And.intro ?_ ?_
 intro L_ w7 hX_ hs_ hf_ hd_
 obtain ⟨_, e15, rfl⟩ := hd_ 15 rfl
 refine W.s1 (e15 _ rfl) ?_
 refine W.shrU (B := 32) (s := 3) rfl rfl rfl rfl ?_
 exact W.e0 rfl
 refine And.intro ?_ ?_
 intro L_ w7 hX_ hs_ hf_ hd_
 obtain ⟨_, e14, rfl⟩ := hd_ 14 rfl
 obtain ⟨_, e16, rfl⟩ := hd_ 16 rfl
 refine W.s2 (e14 _ rfl) (e16 _ rfl) ?_
 refine W.xorU (M := 4294967296) rfl rfl rfl rfl rfl ?_
 exact W.e0 rfl
 refine And.intro ?_ ?_
 intro L_ w7 hX_ hs_ hf_ hd_
 obtain ⟨_, e9, rfl⟩ := hd_ 9 rfl
 obtain ⟨_, e17, rfl⟩ := hd_ 17 rfl
 refine W.s2 (e9 _ rfl) (e17 _ rfl) ?_
 refine W.addU (M := 4294967296) rfl rfl rfl rfl rfl ?_
 exact W.e0 rfl
 refine And.intro (mB rfl rfl (fun _ => rfl) rfl) ?_
 refine And.intro ?_ ?_
 intro L_ w7 hX_ hs_ hf_ hd_
 obtain ⟨_, e19, rfl⟩ := hd_ 19 rfl
 refine W.s1 (e19 _ rfl) ?_
 refine W.call Tryz.call111 rfl (turn_ok _ _ _ (by first | assumption | (apply Lt32.get; assumption))) rfl ?_
 rintro v w' ⟨rfl, rfl⟩
 exact W.e0 rfl
 refine And.intro (mB rfl rfl (fun _ => rfl) rfl) ?_
 refine And.intro ?_ ?_
 intro L_ w7 hX_ hs_ hf_ hd_
 obtain ⟨_, e21, rfl⟩ := hd_ 21 rfl
 refine W.s1 (e21 _ rfl) ?_
 refine W.call Tryz.call111 rfl (turn_ok _ _ _ (by first | assumption | (apply Lt32.get; assumption))) rfl ?_
 rintro v w' ⟨rfl, rfl⟩
 exact W.e0 rfl
 refine And.intro ?_ ?_
 intro L_ w7 hX_ hs_ hf_ hd_
 obtain ⟨_, e20, rfl⟩ := hd_ 20 rfl
 obtain ⟨_, e22, rfl⟩ := hd_ 22 rfl
 refine W.s2 (e20 _ rfl) (e22 _ rfl) ?_
 refine W.xorU (M := 4294967296) rfl rfl rfl rfl rfl ?_
 exact W.e0 rfl
 refine And.intro (mB rfl rfl (fun _ => rfl) rfl) ?_
 refine And.intro ?_ ?_
 intro L_ w7 hX_ hs_ hf_ hd_
 obtain ⟨_, e24, rfl⟩ := hd_ 24 rfl
 refine W.s1 (e24 _ rfl) ?_
 refine W.shrU (B := 32) (s := 10) rfl rfl rfl rfl ?_
 exact W.e0 rfl
 refine And.intro ?_ ?_
 intro L_ w7 hX_ hs_ hf_ hd_
 obtain ⟨_, e23, rfl⟩ := hd_ 23 rfl
 obtain ⟨_, e25, rfl⟩ := hd_ 25 rfl
 refine W.s2 (e23 _ rfl) (e25 _ rfl) ?_
 refine W.xorU (M := 4294967296) rfl rfl rfl rfl rfl ?_
 exact W.e0 rfl
 refine And.intro ?_ ?_
 intro L_ w7 hX_ hs_ hf_ hd_
 obtain ⟨_, e18, rfl⟩ := hd_ 18 rfl
 obtain ⟨_, e26, rfl⟩ := hd_ 26 rfl
 refine W.s2 (e18 _ rfl) (e26 _ rfl) ?_
 refine W.addU (M := 4294967296) rfl rfl rfl rfl rfl ?_
 exact W.e0 (by show Value.int _ _ = Value.int _ _; rw [addM_swap]; rfl)
 refine And.intro ?_ ?_
 intro L_ w7 hX_ hs_ hf_ hd_
 obtain ⟨_, e0, rfl⟩ := hd_ 0 rfl
 refine W.s2 (hs_ 4 _ rfl) (e0 _ rfl) ?_
 refine W.indexA1 Words.X32 Tryz.underlying142 rfl rfl (by first | omega | decide) rfl ?_
 exact W.e0 rfl
 exact trivial
 intro L_ w7 hX6 hs_ hv_
 obtain ⟨_, e28, rfl⟩ := hv_ 28 (by decide)
 obtain ⟨_, e27, rfl⟩ := hv_ 27 (by decide)
 refine W.weaken (l' := [(58, _), (57, _), (2, _), (3, _), (4, _), (6, _), (7, _), (8, _), (9, _)]) (sc (e28 _ rfl) (sc (e27 _ rfl) (sc (hs_ _ _ rfl) (sc (hs_ _ _ rfl) (sc (hs_ _ _ rfl) (sc (hs_ _ _ rfl) (sc (hs_ _ _ rfl) (sc (hs_ _ _ rfl) (sc (hs_ _ _ rfl) (Sub.nil)))))))))) ?_
 refine W.store1 rfl rfl rfl (hB4.ext hX6) (by rw [part64_length (by omega)]; omega) (by kernel_rfl) ?_
 intro w9 hc9 hB9
 have hB9' : Bk w9 g4 (part64 (sch ws (i + 1))) := by
   have := part64_set (l := sch ws i) (by omega) (nextW p x q y)
   rw [hlen] at this
   rw [sch_high ws (by omega), ← hx, ← hy, ← hp, ← hq, ← this]
   exact hB9
 refine W.nil (At.blockNormal (At.thenCode (C.region (W.move rfl rfl ?_))))
 refine W.addI rfl rfl (by omega) rfl ?_
 refine W.assign rfl rfl (W.nil ?_)
 refine At.thenRound (i + 1) (sc rfl (sc rfl (sc rfl (sc rfl (sc (look_eq rfl (by rw [show (i : Int) + 1 = ((i + 1 : Nat) : Int) by omega])) (Sub.nil)))))) (show Ext w _ ∧ 16 ≤ (i + 1) ∧ (i + 1) ≤ 64 ∧ Bk _ g3 (hs.map u32V) ∧ Bk _ g4 (part64 (sch ws (i + 1))) ∧ Bk _ g6 (List.replicate 8 (u32V 0)) from ?_) (show 64 - (i + 1) < 64 - i from ?_)
 exact ⟨(hX1.ext hX6).news hc9 (fun k hk => Or.inr (by omega)), by omega, by omega, (hB3.ext hX6).chg hc9 (by omega), hB9', (hB6.ext hX6).chg hc9 (by omega)⟩
 omega
 obtain rfl : i = 64 := by omega
 rw [part64_full (sch_length ws 64)] at hB4
 obtain ⟨U, hU⟩ : ∃ U, U = sch ws 64 := ⟨_, rfl⟩
 have hUl : U.length = 64 := by rw [hU, sch_length]
 rw [← hU] at hB4 ⊢
 refine C.exit (At.thenExit (At.thenExit (At.blockSelf (At.thenCode (C.seq (C.region ?_))))))
 refine W.loadA rfl (hB3.cells (o := 0)) Tryz.underlying140 rfl (by rw [List.drop_zero, List.length_map, hh]; kernel_rfl) rfl ?_
 refine W.alloc (z := .agg (List.replicate 8 (u32V 0)).toArray) (List.replicate 8 (u32V 0)) (by kernel_rfl) rfl rfl ?_
 intro g10 w10 hg10 hX10 hB10
 have hn10 : g3 ≠ g10 ∧ g4 ≠ g10 ∧ g6 ≠ g10 ∧ w.heap.size ≤ g10 := by have := hX1.size; have := hB3.lt; have := hB4.lt; have := hB6.lt; omega
 refine W.storeA (hs.map u32V) rfl rfl hB10 (by rw [List.length_map, hh]; rfl) (by rw [List.length_map, hh]; kernel_rfl) (u32_oneCell _) ?_
 intro w11 hc11 hB10
 have hX11 : Ext w w11 := (hX1.ext hX10).news hc11 (fun k hk => Or.inr (by omega))
 have hB3 := (hB3.ext hX10).chg hc11 (by omega)
 have hB4 := (hB4.ext hX10).chg hc11 (by omega)
 have hB6 := (hB6.ext hX10).chg hc11 (by omega)
 refine W.nil (At.thenCode (C.seq (C.seq (C.region (W.assign rfl rfl (W.nil (At.thenCode (C.block ?_))))))))
 refine C.loop (X := Nat) (fun x_ => [(2, .slice ao 64 cp), (3, .pointer (some ⟨g3, 0, none⟩)), (4, .pointer (some ⟨g4, 0, none⟩)), (6, .pointer (some ⟨g6, 0, none⟩)), (10, .pointer (some ⟨g10, 0, none⟩)), (11, .int .i64 (x_ : Int))]) (fun x_ w2 => Ext w w2 ∧ x_ ≤ 64 ∧ Bk w2 g3 (hs.map u32V) ∧ Bk w2 g4 (U.map u32V) ∧ Bk w2 g6 (List.replicate 8 (u32V 0)) ∧ Bk w2 g10 ((rnd hs K U x_).map u32V)) (fun x_ => 64 - x_) (0) (sc rfl (sc rfl (sc rfl (sc rfl (sc rfl (sc rfl (Sub.nil))))))) ?start2 ?_
 case start2 =>
   show Ext w _ ∧ (0) ≤ 64 ∧ Bk _ g3 (hs.map u32V) ∧ Bk _ g4 (U.map u32V) ∧ Bk _ g6 (List.replicate 8 (u32V 0)) ∧ Bk _ g10 ((rnd hs K U (0)).map u32V)
   exact ⟨hX11, by omega, hB3, hB4, hB6, hB10⟩
 rintro i w2 hI_
 replace hI_ : Ext w w2 ∧ i ≤ 64 ∧ Bk w2 g3 (hs.map u32V) ∧ Bk w2 g4 (U.map u32V) ∧ Bk w2 g6 (List.replicate 8 (u32V 0)) ∧ Bk w2 g10 ((rnd hs K U i).map u32V) := hI_
 obtain ⟨hX2, hi, hB3, hB4, hB6, hB10⟩ := hI_
 refine C.weaken (l' := [(2, .slice ao 64 cp), (3, .pointer (some ⟨g3, 0, none⟩)), (4, .pointer (some ⟨g4, 0, none⟩)), (6, .pointer (some ⟨g6, 0, none⟩)), (10, .pointer (some ⟨g10, 0, none⟩)), (11, .int .i64 (i : Int))]) (sc rfl (sc rfl (sc rfl (sc rfl (sc rfl (sc rfl (Sub.nil))))))) ?_
 refine C.seq (C.seq (C.region (W.move rfl rfl (W.lssI rfl rfl rfl (W.nil (At.thenCode ?_))))))
 refine C.condD rfl (fun c61 => ?_) (fun c61 => ?_)
 have hrl := rnd_lt hh hhl K U i
 have hr1 : rnd hs K U (i + 1) = stepL (rnd hs K U i) (addM 4294967296 (K.getD i 0) (U.getD i 0)) := rfl
 obtain ⟨a, b, c, d, e, f, g, h, hr⟩ := eight (rnd_length hh K U i)
 rw [hr] at hB10 hrl hr1
 have ha : a < 4294967296 := hrl a (by simp)
 have he : e < 4294967296 := hrl e (by simp)
 obtain ⟨Ki, hKi⟩ : ∃ x, x = K.getD i 0 := ⟨_, rfl⟩
 obtain ⟨Ui, hUi⟩ : ∃ x, x = U.getD i 0 := ⟨_, rfl⟩
 rw [← hKi, ← hUi] at hr1
 have hE : oneV e f g h (addM 4294967296 Ki Ui) = addM 4294967296 (addM 4294967296 (addM 4294967296 (addM 4294967296 h (xorM 4294967296 (xorM 4294967296 (rotV e 6) (rotV e 11)) (rotV e 25))) (xorM 4294967296 (landM 4294967296 e f) (landM 4294967296 (notM 4294967296 e) g))) Ki) Ui := by
   unfold oneV; rw [addM_assoc _ Ki Ui]
 refine C.skip (At.thenCode (C.seq (C.block (C.seq (C.region ?_)))))
 refine W.indexA1 (j := 4) Words.X32 Tryz.underlying140 rfl rfl (by first | omega | decide) rfl ?_
 refine W.loadB rfl Tryz.underlying101 rfl (by assumption) rfl rfl ?_
 refine W.indexA1 (j := 5) Words.X32 Tryz.underlying140 rfl rfl (by first | omega | decide) rfl ?_
 refine W.loadB rfl Tryz.underlying101 rfl (by assumption) rfl rfl ?_
 refine W.andU (M := 4294967296) rfl rfl rfl rfl rfl ?_
 refine W.indexA1 (j := 4) Words.X32 Tryz.underlying140 rfl rfl (by first | omega | decide) rfl ?_
 refine W.loadB rfl Tryz.underlying101 rfl (by assumption) rfl rfl ?_
 refine W.notU (M := 4294967296) rfl rfl rfl rfl ?_
 refine W.indexA1 (j := 6) Words.X32 Tryz.underlying140 rfl rfl (by first | omega | decide) rfl ?_
 refine W.loadB rfl Tryz.underlying101 rfl (by assumption) rfl rfl ?_
 refine W.andU (M := 4294967296) rfl rfl rfl rfl rfl ?_
 refine W.xorU (M := 4294967296) rfl rfl rfl rfl rfl ?_
 refine W.assign rfl rfl (W.nil (At.thenCode (C.seq (C.region ?_))))
 refine W.indexA1 (j := 0) Words.X32 Tryz.underlying140 rfl rfl (by first | omega | decide) rfl ?_
 refine W.loadB rfl Tryz.underlying101 rfl (by assumption) rfl rfl ?_
 refine W.indexA1 (j := 1) Words.X32 Tryz.underlying140 rfl rfl (by first | omega | decide) rfl ?_
 refine W.loadB rfl Tryz.underlying101 rfl (by assumption) rfl rfl ?_
 refine W.andU (M := 4294967296) rfl rfl rfl rfl rfl ?_
 refine W.indexA1 (j := 0) Words.X32 Tryz.underlying140 rfl rfl (by first | omega | decide) rfl ?_
 refine W.loadB rfl Tryz.underlying101 rfl (by assumption) rfl rfl ?_
 refine W.indexA1 (j := 2) Words.X32 Tryz.underlying140 rfl rfl (by first | omega | decide) rfl ?_
 refine W.loadB rfl Tryz.underlying101 rfl (by assumption) rfl rfl ?_
 refine W.andU (M := 4294967296) rfl rfl rfl rfl rfl ?_
 refine W.xorU (M := 4294967296) rfl rfl rfl rfl rfl ?_
 refine W.indexA1 (j := 1) Words.X32 Tryz.underlying140 rfl rfl (by first | omega | decide) rfl ?_
 refine W.loadB rfl Tryz.underlying101 rfl (by assumption) rfl rfl ?_
 refine W.indexA1 (j := 2) Words.X32 Tryz.underlying140 rfl rfl (by first | omega | decide) rfl ?_
 refine W.loadB rfl Tryz.underlying101 rfl (by assumption) rfl rfl ?_
 refine W.andU (M := 4294967296) rfl rfl rfl rfl rfl ?_
 refine W.xorU (M := 4294967296) rfl rfl rfl rfl rfl ?_
 refine W.assign rfl rfl (W.nil (At.thenCode (C.seq ?_)))
 refine C.regionAny 26 (E_ (.pointer (some ⟨g10, 7, none⟩)) :: E_ (.int .u32 (h : Int)) :: E_ (.pointer (some ⟨g10, 4, none⟩)) :: E_ (.int .u32 (e : Int)) :: E_ (.int .u32 ((rotV e 6 : Nat) : Int)) :: E_ (.pointer (some ⟨g10, 4, none⟩)) :: E_ (.int .u32 (e : Int)) :: E_ (.int .u32 ((rotV e 11 : Nat) : Int)) :: E_ (.int .u32 ((xorM 4294967296 (rotV e 6) (rotV e 11) : Nat) : Int)) :: E_ (.pointer (some ⟨g10, 4, none⟩)) :: E_ (.int .u32 (e : Int)) :: E_ (.int .u32 ((rotV e 25 : Nat) : Int)) :: E_ (.int .u32 ((xorM 4294967296 (xorM 4294967296 (rotV e 6) (rotV e 11)) (rotV e 25) : Nat) : Int)) :: E_ (.int .u32 ((addM 4294967296 h (xorM 4294967296 (xorM 4294967296 (rotV e 6) (rotV e 11)) (rotV e 25)) : Nat) : Int)) :: E_ (.int .u32 ((xorM 4294967296 (landM 4294967296 e f) (landM 4294967296 (notM 4294967296 e) g) : Nat) : Int)) :: E_ (.int .u32 ((addM 4294967296 (addM 4294967296 h (xorM 4294967296 (xorM 4294967296 (rotV e 6) (rotV e 11)) (rotV e 25))) (xorM 4294967296 (landM 4294967296 e f) (landM 4294967296 (notM 4294967296 e) g)) : Nat) : Int)) :: E_ (.slice ao 64 cp) :: E_ (.int .i64 (i : Int)) :: (fun v w => ∃ ad, v = .pointer (some ad) ∧ Cells w ad ((K.map u32V).drop i)) :: E_ (.int .u32 (Ki : Int)) :: E_ (.int .u32 ((addM 4294967296 (addM 4294967296 (addM 4294967296 h (xorM 4294967296 (xorM 4294967296 (rotV e 6) (rotV e 11)) (rotV e 25))) (xorM 4294967296 (landM 4294967296 e f) (landM 4294967296 (notM 4294967296 e) g))) Ki : Nat) : Int)) :: E_ (.int .i64 (i : Int)) :: E_ (.pointer (some ⟨g4, i, none⟩)) :: E_ (.int .u32 (Ui : Int)) :: E_ (.int .u32 ((oneV e f g h (addM 4294967296 Ki Ui) : Nat) : Int)) :: E_ (.int .u32 ((oneV e f g h (addM 4294967296 Ki Ui) : Nat) : Int)) :: []) [(2, .slice ao 64 cp), (3, .pointer (some ⟨g3, 0, none⟩)), (4, .pointer (some ⟨g4, 0, none⟩)), (6, .pointer (some ⟨g6, 0, none⟩)), (10, .pointer (some ⟨g10, 0, none⟩)), (11, .int .i64 (i : Int)), (12, .int .u32 ((xorM 4294967296 (landM 4294967296 e f) (landM 4294967296 (notM 4294967296 e) g) : Nat) : Int)), (13, .int .u32 ((xorM 4294967296 (xorM 4294967296 (landM 4294967296 a b) (landM 4294967296 a c)) (landM 4294967296 b c) : Nat) : Int))] [] (sc rfl (sc rfl (sc rfl (sc rfl (sc rfl (sc rfl (sc rfl (sc rfl (Sub.nil))))))))) (Sub.nil) (sc rfl (sc rfl (sc rfl (sc rfl (sc rfl (sc rfl (sc rfl (sc rfl (Sub.nil))))))))) (by kernel_rfl) rfl rfl rfl (sN (sN (sN (sN (sN (sN (sN (sN (sN (sN (sN (sN (sN (sN (sN (sN (sN (sN (sM (fun _ _ _ ⟨ad, e, h⟩ g => ⟨ad, e, h.chg g (fun c => c)⟩) (sN (sN (sN (sN (sN (sN (sN (trivial))))))))))))))))))))))))))) ?_ ?_
 refine And.intro ?_ ?_
 intro L_ w13 hX_ hs_ hf_ hd_
 refine W.s1 (hs_ 10 _ rfl) ?_
 refine W.indexA1 (j := 7) Words.X32 Tryz.underlying140 rfl rfl (by first | omega | decide) rfl ?_
 exact W.e0 rfl
 refine And.intro ?_ ?_
 intro L_ w13 hX_ hs_ hf_ hd_
 obtain ⟨_, e0, rfl⟩ := hd_ 0 rfl
 refine W.s1 (e0 _ rfl) ?_
 refine W.loadB rfl Tryz.underlying101 rfl (Bk.ext (by assumption) hX_) rfl rfl ?_
 exact W.e0 rfl
 refine And.intro ?_ ?_
 intro L_ w13 hX_ hs_ hf_ hd_
 refine W.s1 (hs_ 10 _ rfl) ?_
 refine W.indexA1 (j := 4) Words.X32 Tryz.underlying140 rfl rfl (by first | omega | decide) rfl ?_
 exact W.e0 rfl
 refine And.intro ?_ ?_
 intro L_ w13 hX_ hs_ hf_ hd_
 obtain ⟨_, e2, rfl⟩ := hd_ 2 rfl
 refine W.s1 (e2 _ rfl) ?_
 refine W.loadB rfl Tryz.underlying101 rfl (Bk.ext (by assumption) hX_) rfl rfl ?_
 exact W.e0 rfl
 refine And.intro ?_ ?_
 intro L_ w13 hX_ hs_ hf_ hd_
 obtain ⟨_, e3, rfl⟩ := hd_ 3 rfl
 refine W.s1 (e3 _ rfl) ?_
 refine W.call Tryz.call111 rfl (turn_ok _ _ _ (by first | assumption | (apply Lt32.get; assumption))) rfl ?_
 rintro v w' ⟨rfl, rfl⟩
 exact W.e0 rfl
 refine And.intro ?_ ?_
 intro L_ w13 hX_ hs_ hf_ hd_
 refine W.s1 (hs_ 10 _ rfl) ?_
 refine W.indexA1 (j := 4) Words.X32 Tryz.underlying140 rfl rfl (by first | omega | decide) rfl ?_
 exact W.e0 rfl
 refine And.intro ?_ ?_
 intro L_ w13 hX_ hs_ hf_ hd_
 obtain ⟨_, e5, rfl⟩ := hd_ 5 rfl
 refine W.s1 (e5 _ rfl) ?_
 refine W.loadB rfl Tryz.underlying101 rfl (Bk.ext (by assumption) hX_) rfl rfl ?_
 exact W.e0 rfl
 refine And.intro ?_ ?_
 intro L_ w13 hX_ hs_ hf_ hd_
 obtain ⟨_, e6, rfl⟩ := hd_ 6 rfl
 refine W.s1 (e6 _ rfl) ?_
 refine W.call Tryz.call111 rfl (turn_ok _ _ _ (by first | assumption | (apply Lt32.get; assumption))) rfl ?_
 rintro v w' ⟨rfl, rfl⟩
 exact W.e0 rfl
 refine And.intro ?_ ?_
 intro L_ w13 hX_ hs_ hf_ hd_
 obtain ⟨_, e4, rfl⟩ := hd_ 4 rfl
 obtain ⟨_, e7, rfl⟩ := hd_ 7 rfl
 refine W.s2 (e4 _ rfl) (e7 _ rfl) ?_
 refine W.xorU (M := 4294967296) rfl rfl rfl rfl rfl ?_
 exact W.e0 rfl
 refine And.intro ?_ ?_
 intro L_ w13 hX_ hs_ hf_ hd_
 refine W.s1 (hs_ 10 _ rfl) ?_
 refine W.indexA1 (j := 4) Words.X32 Tryz.underlying140 rfl rfl (by first | omega | decide) rfl ?_
 exact W.e0 rfl
 refine And.intro ?_ ?_
 intro L_ w13 hX_ hs_ hf_ hd_
 obtain ⟨_, e9, rfl⟩ := hd_ 9 rfl
 refine W.s1 (e9 _ rfl) ?_
 refine W.loadB rfl Tryz.underlying101 rfl (Bk.ext (by assumption) hX_) rfl rfl ?_
 exact W.e0 rfl
 refine And.intro ?_ ?_
 intro L_ w13 hX_ hs_ hf_ hd_
 obtain ⟨_, e10, rfl⟩ := hd_ 10 rfl
 refine W.s1 (e10 _ rfl) ?_
 refine W.call Tryz.call111 rfl (turn_ok _ _ _ (by first | assumption | (apply Lt32.get; assumption))) rfl ?_
 rintro v w' ⟨rfl, rfl⟩
 exact W.e0 rfl
 refine And.intro ?_ ?_
 intro L_ w13 hX_ hs_ hf_ hd_
 obtain ⟨_, e8, rfl⟩ := hd_ 8 rfl
 obtain ⟨_, e11, rfl⟩ := hd_ 11 rfl
 refine W.s2 (e8 _ rfl) (e11 _ rfl) ?_
 refine W.xorU (M := 4294967296) rfl rfl rfl rfl rfl ?_
 exact W.e0 rfl
 refine And.intro ?_ ?_
 intro L_ w13 hX_ hs_ hf_ hd_
 obtain ⟨_, e1, rfl⟩ := hd_ 1 rfl
 obtain ⟨_, e12, rfl⟩ := hd_ 12 rfl
 refine W.s2 (e1 _ rfl) (e12 _ rfl) ?_
 refine W.addU (M := 4294967296) rfl rfl rfl rfl rfl ?_
 exact W.e0 rfl
 refine And.intro (mB rfl rfl (fun _ => rfl) rfl) ?_
 refine And.intro ?_ ?_
 intro L_ w13 hX_ hs_ hf_ hd_
 obtain ⟨_, e13, rfl⟩ := hd_ 13 rfl
 obtain ⟨_, e14, rfl⟩ := hd_ 14 rfl
 refine W.s2 (e13 _ rfl) (e14 _ rfl) ?_
 refine W.addU (M := 4294967296) rfl rfl rfl rfl rfl ?_
 exact W.e0 rfl
 refine And.intro (mB rfl rfl (fun _ => rfl) rfl) ?_
 refine And.intro (mB rfl rfl (fun _ => rfl) rfl) ?_
 refine And.intro ?_ ?_
 intro L_ w13 hX_ hs_ hf_ hd_
 obtain ⟨_, e16, rfl⟩ := hd_ 16 rfl
 obtain ⟨_, e17, rfl⟩ := hd_ 17 rfl
 refine W.s2 (e16 _ rfl) (e17 _ rfl) ?_
 refine W.indexS X32 Tryz.underlying151 rfl (hS.ext (hX2.ext hX_)) rfl (by omega) rfl ?_
 intro ad111 _ _ hc111
 rw [Int.toNat_natCast, Nat.mul_one] at hc111
 exact W.e0 ⟨_, rfl, hc111⟩
 refine And.intro ?_ ?_
 intro L_ w13 hX_ hs_ hf_ hd_
 obtain ⟨v18, e18, r18⟩ := hd_ 18 rfl
 obtain ⟨ad18, rfl, hc18⟩ := r18
 refine W.s1 (e18 _ rfl) ?_
 refine W.load (v := .int .u32 (Ki : Int)) rfl Tryz.underlying101 rfl ?_ rfl ?_
 have := hc18 0 _ (by rw [List.getElem?_drop, Nat.add_zero]; exact map_get (by omega))
 rw [add_zero'] at this
 rw [hKi]; exact this
 exact W.e0 rfl
 refine And.intro ?_ ?_
 intro L_ w13 hX_ hs_ hf_ hd_
 obtain ⟨_, e15, rfl⟩ := hd_ 15 rfl
 obtain ⟨_, e19, rfl⟩ := hd_ 19 rfl
 refine W.s2 (e15 _ rfl) (e19 _ rfl) ?_
 refine W.addU (M := 4294967296) rfl rfl rfl rfl rfl ?_
 exact W.e0 rfl
 refine And.intro (mB rfl rfl (fun _ => rfl) rfl) ?_
 refine And.intro ?_ ?_
 intro L_ w13 hX_ hs_ hf_ hd_
 obtain ⟨_, e21, rfl⟩ := hd_ 21 rfl
 refine W.s2 (hs_ 4 _ rfl) (e21 _ rfl) ?_
 refine W.indexA1 Words.X32 Tryz.underlying142 rfl rfl (by first | omega | decide) rfl ?_
 exact W.e0 rfl
 refine And.intro ?_ ?_
 intro L_ w13 hX_ hs_ hf_ hd_
 obtain ⟨_, e22, rfl⟩ := hd_ 22 rfl
 refine W.s1 (e22 _ rfl) ?_
 rw [hUi]
 refine W.loadB rfl Tryz.underlying101 rfl (hB4.ext hX_) (map_get (by omega)) rfl ?_
 exact W.e0 rfl
 refine And.intro ?_ ?_
 intro L_ w13 hX_ hs_ hf_ hd_
 obtain ⟨_, e20, rfl⟩ := hd_ 20 rfl
 obtain ⟨_, e23, rfl⟩ := hd_ 23 rfl
 refine W.s2 (e20 _ rfl) (e23 _ rfl) ?_
 refine W.addU (M := 4294967296) rfl rfl rfl rfl rfl ?_
 rw [← hE]
 exact W.e0 rfl
 refine And.intro ?_ ?_
 intro L_ w13 hX_ hs_ hf_ hd_
 obtain ⟨_, e24, rfl⟩ := hd_ 24 rfl
 exact W.s1 (e24 _ rfl) (W.assign rfl rfl (W.e0 rfl))
 exact trivial
 intro L_ w13 hX13 hs_ hv_
 obtain ⟨_, e25, rfl⟩ := hv_ 25 (by decide)
 refine W.weaken (l' := [(14, _), (2, _), (3, _), (4, _), (6, _), (10, _), (11, _), (12, _), (13, _)]) (sc (e25 _ rfl) (sc (hs_ _ _ rfl) (sc (hs_ _ _ rfl) (sc (hs_ _ _ rfl) (sc (hs_ _ _ rfl) (sc (hs_ _ _ rfl) (sc (hs_ _ _ rfl) (sc (hs_ _ _ rfl) (sc (hs_ _ _ rfl) (Sub.nil)))))))))) ?_
 refine W.nil (At.thenCode (C.seq ?_))
 refine C.regionAny 14 (E_ (.pointer (some ⟨g10, 0, none⟩)) :: E_ (.int .u32 (a : Int)) :: E_ (.int .u32 ((rotV a 2 : Nat) : Int)) :: E_ (.pointer (some ⟨g10, 0, none⟩)) :: E_ (.int .u32 (a : Int)) :: E_ (.int .u32 ((rotV a 13 : Nat) : Int)) :: E_ (.int .u32 ((xorM 4294967296 (rotV a 2) (rotV a 13) : Nat) : Int)) :: E_ (.pointer (some ⟨g10, 0, none⟩)) :: E_ (.int .u32 (a : Int)) :: E_ (.int .u32 ((rotV a 22 : Nat) : Int)) :: E_ (.int .u32 ((xorM 4294967296 (xorM 4294967296 (rotV a 2) (rotV a 13)) (rotV a 22) : Nat) : Int)) :: E_ (.int .u32 ((xorM 4294967296 (xorM 4294967296 (landM 4294967296 a b) (landM 4294967296 a c)) (landM 4294967296 b c) : Nat) : Int)) :: E_ (.int .u32 ((twoV a b c : Nat) : Int)) :: E_ (.int .u32 ((twoV a b c : Nat) : Int)) :: []) [(2, .slice ao 64 cp), (3, .pointer (some ⟨g3, 0, none⟩)), (4, .pointer (some ⟨g4, 0, none⟩)), (6, .pointer (some ⟨g6, 0, none⟩)), (10, .pointer (some ⟨g10, 0, none⟩)), (11, .int .i64 (i : Int)), (13, .int .u32 ((xorM 4294967296 (xorM 4294967296 (landM 4294967296 a b) (landM 4294967296 a c)) (landM 4294967296 b c) : Nat) : Int)), (14, .int .u32 ((oneV e f g h (addM 4294967296 Ki Ui) : Nat) : Int))] [] (sc rfl (sc rfl (sc rfl (sc rfl (sc rfl (sc rfl (sc rfl (sc rfl (Sub.nil))))))))) (Sub.nil) (sc rfl (sc rfl (sc rfl (sc rfl (sc rfl (sc rfl (sc rfl (sc rfl (Sub.nil))))))))) (by kernel_rfl) rfl rfl rfl (sN (sN (sN (sN (sN (sN (sN (sN (sN (sN (sN (sN (sN (sN (trivial))))))))))))))) ?_ ?_
 refine And.intro ?_ ?_
 intro L_ w14 hX_ hs_ hf_ hd_
 refine W.s1 (hs_ 10 _ rfl) ?_
 refine W.indexA1 (j := 0) Words.X32 Tryz.underlying140 rfl rfl (by first | omega | decide) rfl ?_
 exact W.e0 rfl
 refine And.intro ?_ ?_
 intro L_ w14 hX_ hs_ hf_ hd_
 obtain ⟨_, e0, rfl⟩ := hd_ 0 rfl
 refine W.s1 (e0 _ rfl) ?_
 refine W.loadB rfl Tryz.underlying101 rfl ((hB10.ext hX13).ext hX_) rfl rfl ?_
 exact W.e0 rfl
 refine And.intro ?_ ?_
 intro L_ w14 hX_ hs_ hf_ hd_
 obtain ⟨_, e1, rfl⟩ := hd_ 1 rfl
 refine W.s1 (e1 _ rfl) ?_
 refine W.call Tryz.call111 rfl (turn_ok _ _ _ (by first | assumption | (apply Lt32.get; assumption))) rfl ?_
 rintro v w' ⟨rfl, rfl⟩
 exact W.e0 rfl
 refine And.intro ?_ ?_
 intro L_ w14 hX_ hs_ hf_ hd_
 refine W.s1 (hs_ 10 _ rfl) ?_
 refine W.indexA1 (j := 0) Words.X32 Tryz.underlying140 rfl rfl (by first | omega | decide) rfl ?_
 exact W.e0 rfl
 refine And.intro ?_ ?_
 intro L_ w14 hX_ hs_ hf_ hd_
 obtain ⟨_, e3, rfl⟩ := hd_ 3 rfl
 refine W.s1 (e3 _ rfl) ?_
 refine W.loadB rfl Tryz.underlying101 rfl ((hB10.ext hX13).ext hX_) rfl rfl ?_
 exact W.e0 rfl
 refine And.intro ?_ ?_
 intro L_ w14 hX_ hs_ hf_ hd_
 obtain ⟨_, e4, rfl⟩ := hd_ 4 rfl
 refine W.s1 (e4 _ rfl) ?_
 refine W.call Tryz.call111 rfl (turn_ok _ _ _ (by first | assumption | (apply Lt32.get; assumption))) rfl ?_
 rintro v w' ⟨rfl, rfl⟩
 exact W.e0 rfl
 refine And.intro ?_ ?_
 intro L_ w14 hX_ hs_ hf_ hd_
 obtain ⟨_, e2, rfl⟩ := hd_ 2 rfl
 obtain ⟨_, e5, rfl⟩ := hd_ 5 rfl
 refine W.s2 (e2 _ rfl) (e5 _ rfl) ?_
 refine W.xorU (M := 4294967296) rfl rfl rfl rfl rfl ?_
 exact W.e0 rfl
 refine And.intro ?_ ?_
 intro L_ w14 hX_ hs_ hf_ hd_
 refine W.s1 (hs_ 10 _ rfl) ?_
 refine W.indexA1 (j := 0) Words.X32 Tryz.underlying140 rfl rfl (by first | omega | decide) rfl ?_
 exact W.e0 rfl
 refine And.intro ?_ ?_
 intro L_ w14 hX_ hs_ hf_ hd_
 obtain ⟨_, e7, rfl⟩ := hd_ 7 rfl
 refine W.s1 (e7 _ rfl) ?_
 refine W.loadB rfl Tryz.underlying101 rfl ((hB10.ext hX13).ext hX_) rfl rfl ?_
 exact W.e0 rfl
 refine And.intro ?_ ?_
 intro L_ w14 hX_ hs_ hf_ hd_
 obtain ⟨_, e8, rfl⟩ := hd_ 8 rfl
 refine W.s1 (e8 _ rfl) ?_
 refine W.call Tryz.call111 rfl (turn_ok _ _ _ (by first | assumption | (apply Lt32.get; assumption))) rfl ?_
 rintro v w' ⟨rfl, rfl⟩
 exact W.e0 rfl
 refine And.intro ?_ ?_
 intro L_ w14 hX_ hs_ hf_ hd_
 obtain ⟨_, e6, rfl⟩ := hd_ 6 rfl
 obtain ⟨_, e9, rfl⟩ := hd_ 9 rfl
 refine W.s2 (e6 _ rfl) (e9 _ rfl) ?_
 refine W.xorU (M := 4294967296) rfl rfl rfl rfl rfl ?_
 exact W.e0 rfl
 refine And.intro (mB rfl rfl (fun _ => rfl) rfl) ?_
 refine And.intro ?_ ?_
 intro L_ w14 hX_ hs_ hf_ hd_
 obtain ⟨_, e10, rfl⟩ := hd_ 10 rfl
 obtain ⟨_, e11, rfl⟩ := hd_ 11 rfl
 refine W.s2 (e10 _ rfl) (e11 _ rfl) ?_
 refine W.addU (M := 4294967296) rfl rfl rfl rfl rfl ?_
 exact W.e0 rfl
 refine And.intro ?_ ?_
 intro L_ w14 hX_ hs_ hf_ hd_
 obtain ⟨_, e12, rfl⟩ := hd_ 12 rfl
 exact W.s1 (e12 _ rfl) (W.assign rfl rfl (W.e0 rfl))
 exact trivial
 intro L_ w14 hX14 hs_ hv_
 obtain ⟨_, e13, rfl⟩ := hv_ 13 (by decide)
 refine W.weaken (l' := [(15, _), (2, _), (3, _), (4, _), (6, _), (10, _), (11, _), (13, _), (14, _)]) (sc (e13 _ rfl) (sc (hs_ _ _ rfl) (sc (hs_ _ _ rfl) (sc (hs_ _ _ rfl) (sc (hs_ _ _ rfl) (sc (hs_ _ _ rfl) (sc (hs_ _ _ rfl) (sc (hs_ _ _ rfl) (sc (hs_ _ _ rfl) (Sub.nil)))))))))) ?_
 refine W.nil (At.thenCode (C.seq (C.seq (C.region (W.assign rfl rfl (W.nil (At.thenCode (C.block ?_))))))))
 refine C.loop (X := Nat) (fun x_ => [(2, .slice ao 64 cp), (3, .pointer (some ⟨g3, 0, none⟩)), (4, .pointer (some ⟨g4, 0, none⟩)), (6, .pointer (some ⟨g6, 0, none⟩)), (10, .pointer (some ⟨g10, 0, none⟩)), (11, .int .i64 (i : Int)), (14, .int .u32 ((oneV e f g h (addM 4294967296 Ki Ui) : Nat) : Int)), (15, .int .u32 ((twoV a b c : Nat) : Int)), (16, .int .i64 (x_ : Int))]) (fun x_ w3 => Ext w w3 ∧ x_ ≤ 7 ∧ Bk w3 g3 (hs.map u32V) ∧ Bk w3 g4 (U.map u32V) ∧ Bk w3 g6 (List.replicate 8 (u32V 0)) ∧ Bk w3 g10 ((shf [a, b, c, d, e, f, g, h] x_).map u32V)) (fun x_ => x_) (7) (sc rfl (sc rfl (sc rfl (sc rfl (sc rfl (sc rfl (sc rfl (sc rfl (sc rfl (Sub.nil)))))))))) ?start3 ?_
 case start3 =>
   show Ext w _ ∧ (7) ≤ 7 ∧ Bk _ g3 (hs.map u32V) ∧ Bk _ g4 (U.map u32V) ∧ Bk _ g6 (List.replicate 8 (u32V 0)) ∧ Bk _ g10 ((shf [a, b, c, d, e, f, g, h] (7)).map u32V)
   exact ⟨(hX2.ext hX13).ext hX14, by omega, (hB3.ext hX13).ext hX14, (hB4.ext hX13).ext hX14, (hB6.ext hX13).ext hX14, (hB10.ext hX13).ext hX14⟩
 rintro k w3 hI_
 replace hI_ : Ext w w3 ∧ k ≤ 7 ∧ Bk w3 g3 (hs.map u32V) ∧ Bk w3 g4 (U.map u32V) ∧ Bk w3 g6 (List.replicate 8 (u32V 0)) ∧ Bk w3 g10 ((shf [a, b, c, d, e, f, g, h] k).map u32V) := hI_
 obtain ⟨hX3, hk, hB3, hB4, hB6, hB10⟩ := hI_
 refine C.weaken (l' := [(2, .slice ao 64 cp), (3, .pointer (some ⟨g3, 0, none⟩)), (4, .pointer (some ⟨g4, 0, none⟩)), (6, .pointer (some ⟨g6, 0, none⟩)), (10, .pointer (some ⟨g10, 0, none⟩)), (11, .int .i64 (i : Int)), (14, .int .u32 ((oneV e f g h (addM 4294967296 Ki Ui) : Nat) : Int)), (15, .int .u32 ((twoV a b c : Nat) : Int)), (16, .int .i64 (k : Int))]) (sc rfl (sc rfl (sc rfl (sc rfl (sc rfl (sc rfl (sc rfl (sc rfl (sc rfl (Sub.nil)))))))))) ?_
 refine C.seq (C.seq (C.region (W.move rfl rfl (W.gtrI rfl rfl rfl (W.nil (At.thenCode ?_))))))
 refine C.condD rfl (fun c132 => ?_) (fun c132 => ?_)
 obtain ⟨sv, hsv1, hsv2⟩ := shf_step a b c d e f g h (k := k) (by omega) hk
 have hsl := shf_length a b c d e f g h k hk
 refine C.skip (At.thenCode (C.seq (C.block (C.region (W.move rfl rfl (W.move rfl rfl ?_))))))
 refine W.subI rfl rfl (by omega) rfl ?_
 rw [show (k : Int) - 1 = ((k - 1 : Nat) : Int) by omega]
 refine W.indexA1 Words.X32 Tryz.underlying140 rfl rfl (by first | omega | decide) rfl ?_
 refine W.loadB rfl Tryz.underlying101 rfl hB10 hsv1 rfl ?_
 refine W.indexA1 Words.X32 Tryz.underlying140 rfl rfl (by first | omega | decide) rfl ?_
 refine W.store1 rfl rfl rfl hB10 (by rw [List.length_map]; omega) (by kernel_rfl) ?_
 intro w9 hc9 hB9
 rw [hsv2] at hB9
 refine W.nil (At.blockNormal (At.thenCode (C.region (W.move rfl rfl ?_))))
 refine W.subI rfl rfl (by omega) rfl ?_
 refine W.assign rfl rfl (W.nil ?_)
 refine At.thenRound (k - 1) (sc rfl (sc rfl (sc rfl (sc rfl (sc rfl (sc rfl (sc rfl (sc rfl (sc (look_eq rfl (by rw [show (k : Int) - 1 = ((k - 1 : Nat) : Int) by omega])) (Sub.nil)))))))))) (show Ext w _ ∧ (k - 1) ≤ 7 ∧ Bk _ g3 (hs.map u32V) ∧ Bk _ g4 (U.map u32V) ∧ Bk _ g6 (List.replicate 8 (u32V 0)) ∧ Bk _ g10 ((shf [a, b, c, d, e, f, g, h] (k - 1)).map u32V) from ?_) (show (k - 1) < k from ?_)
 exact ⟨hX3.news hc9 (fun k hk => Or.inr (by omega)), by omega, hB3.chg hc9 (by omega), hB4.chg hc9 (by omega), hB6.chg hc9 (by omega), hB9⟩
 omega
 obtain rfl : k = 0 := by omega
 refine C.exit (At.thenExit (At.thenExit (At.blockSelf (At.thenCode (C.seq (C.region ?_))))))
 refine W.indexA1 (j := 4) Words.X32 Tryz.underlying140 rfl rfl (by first | omega | decide) rfl ?_
 refine W.loadB rfl Tryz.underlying101 rfl (by assumption) rfl rfl ?_
 refine W.move rfl rfl ?_
 refine W.addU (M := 4294967296) rfl rfl rfl rfl rfl ?_
 refine W.indexA1 (j := 4) Words.X32 Tryz.underlying140 rfl rfl (by first | omega | decide) rfl ?_
 refine W.store1 rfl rfl rfl hB10 (by simp [shf]) (by kernel_rfl) ?_
 intro w19 hc19 hB19
 refine W.nil (At.thenCode (C.region (W.move rfl rfl (W.move rfl rfl ?_))))
 refine W.addU (M := 4294967296) rfl rfl rfl rfl rfl ?_
 refine W.indexA1 (j := 0) Words.X32 Tryz.underlying140 rfl rfl (by first | omega | decide) rfl ?_
 refine W.store1 rfl rfl rfl hB19 (by simp [shf]) (by kernel_rfl) ?_
 intro w20 hc20 hB20
 have hB20' : Bk w20 g10 ((rnd hs K U (i + 1)).map u32V) := by rw [hr1]; exact hB20
 refine W.nil (At.blockNormal (At.thenCode (C.region (W.move rfl rfl ?_))))
 refine W.addI rfl rfl (by omega) rfl ?_
 refine W.assign rfl rfl (W.nil ?_)
 refine At.thenRound (i + 1) (sc rfl (sc rfl (sc rfl (sc rfl (sc rfl (sc (look_eq rfl (by rw [show (i : Int) + 1 = ((i + 1 : Nat) : Int) by omega])) (Sub.nil))))))) (show Ext w _ ∧ (i + 1) ≤ 64 ∧ Bk _ g3 (hs.map u32V) ∧ Bk _ g4 (U.map u32V) ∧ Bk _ g6 (List.replicate 8 (u32V 0)) ∧ Bk _ g10 ((rnd hs K U (i + 1)).map u32V) from ?_) (show 64 - (i + 1) < 64 - i from ?_)
 exact ⟨(hX3.news hc19 (fun k hk => Or.inr (by omega))).news hc20 (fun k hk => Or.inr (by omega)), by omega, (hB3.chg hc19 (by omega)).chg hc20 (by omega), (hB4.chg hc19 (by omega)).chg hc20 (by omega), (hB6.chg hc19 (by omega)).chg hc20 (by omega), hB20'⟩
 omega
 obtain rfl : i = 64 := by omega
 have hR := rnd_length hh K U 64
 refine C.exit (At.thenExit (At.thenExit (At.blockSelf (At.thenCode (C.seq (C.seq (C.region (W.assign rfl rfl (W.nil (At.thenCode (C.block ?_)))))))))))
 refine C.loop (X := Nat) (fun x_ => [(3, .pointer (some ⟨g3, 0, none⟩)), (6, .pointer (some ⟨g6, 0, none⟩)), (10, .pointer (some ⟨g10, 0, none⟩)), (17, .int .i64 (x_ : Int))]) (fun x_ w4 => Ext w w4 ∧ x_ ≤ 8 ∧ Bk w4 g3 (hs.map u32V) ∧ Bk w4 g6 (List.replicate 8 (u32V 0)) ∧ Bk w4 g10 ((mid8 (rnd hs K U 64) hs x_).map u32V)) (fun x_ => 8 - x_) (0) (sc rfl (sc rfl (sc rfl (sc rfl (Sub.nil))))) ?start4 ?_
 case start4 =>
   show Ext w _ ∧ (0) ≤ 8 ∧ Bk _ g3 (hs.map u32V) ∧ Bk _ g6 (List.replicate 8 (u32V 0)) ∧ Bk _ g10 ((mid8 (rnd hs K U 64) hs (0)).map u32V)
   exact ⟨hX2, by omega, hB3, hB6, hB10⟩
 rintro j w4 hI_
 replace hI_ : Ext w w4 ∧ j ≤ 8 ∧ Bk w4 g3 (hs.map u32V) ∧ Bk w4 g6 (List.replicate 8 (u32V 0)) ∧ Bk w4 g10 ((mid8 (rnd hs K U 64) hs j).map u32V) := hI_
 obtain ⟨hX4, hj, hB3, hB6, hB10⟩ := hI_
 refine C.weaken (l' := [(3, .pointer (some ⟨g3, 0, none⟩)), (6, .pointer (some ⟨g6, 0, none⟩)), (10, .pointer (some ⟨g10, 0, none⟩)), (17, .int .i64 (j : Int))]) (sc rfl (sc rfl (sc rfl (sc rfl (Sub.nil))))) ?_
 refine C.seq (C.seq (C.region (W.move rfl rfl (W.lssI rfl rfl rfl (W.nil (At.thenCode ?_))))))
 refine C.condD rfl (fun c151 => ?_) (fun c151 => ?_)
 have hm := mid8_length (j := j) hR hh hj
 refine C.skip (At.thenCode (C.seq (C.block ?_)))
 refine C.regionAny 9 (E_ (.int .i64 (j : Int)) :: E_ (.int .i64 (j : Int)) :: E_ (.pointer (some ⟨g10, j, none⟩)) :: E_ (.int .u32 (((rnd hs K U 64).getD j 0 : Nat) : Int)) :: E_ (.int .i64 (j : Int)) :: E_ (.pointer (some ⟨g3, j, none⟩)) :: E_ (.int .u32 ((hs.getD j 0 : Nat) : Int)) :: E_ (.int .u32 ((addM 4294967296 ((rnd hs K U 64).getD j 0) (hs.getD j 0) : Nat) : Int)) :: E_ (.pointer (some ⟨g10, j, none⟩)) :: []) [(3, .pointer (some ⟨g3, 0, none⟩)), (6, .pointer (some ⟨g6, 0, none⟩)), (10, .pointer (some ⟨g10, 0, none⟩)), (17, .int .i64 (j : Int))] [] (sc rfl (sc rfl (sc rfl (sc rfl (Sub.nil))))) (Sub.nil) (sc rfl (sc rfl (sc rfl (sc rfl (Sub.nil))))) (by kernel_rfl) rfl rfl rfl (sN (sN (sN (sN (sN (sN (sN (sN (sN (trivial)))))))))) ?_ ?_
 refine And.intro (mB rfl rfl (fun _ => rfl) rfl) ?_
 refine And.intro (mB rfl rfl (fun _ => rfl) rfl) ?_
 refine And.intro ?_ ?_
 intro L_ w24 hX_ hs_ hf_ hd_
 obtain ⟨_, e1, rfl⟩ := hd_ 1 rfl
 refine W.s2 (hs_ 10 _ rfl) (e1 _ rfl) ?_
 refine W.indexA1 Words.X32 Tryz.underlying140 rfl rfl (by first | omega | decide) rfl ?_
 exact W.e0 rfl
 refine And.intro ?_ ?_
 intro L_ w24 hX_ hs_ hf_ hd_
 obtain ⟨_, e2, rfl⟩ := hd_ 2 rfl
 refine W.s1 (e2 _ rfl) ?_
 refine W.loadB rfl Tryz.underlying101 rfl (hB10.ext hX_) (by rw [map_get (by omega), mid8_get hR hh (by omega)]) rfl ?_
 exact W.e0 rfl
 refine And.intro (mB rfl rfl (fun _ => rfl) rfl) ?_
 refine And.intro ?_ ?_
 intro L_ w24 hX_ hs_ hf_ hd_
 obtain ⟨_, e4, rfl⟩ := hd_ 4 rfl
 refine W.s2 (hs_ 3 _ rfl) (e4 _ rfl) ?_
 refine W.indexA1 Words.X32 Tryz.underlying140 rfl rfl (by first | omega | decide) rfl ?_
 exact W.e0 rfl
 refine And.intro ?_ ?_
 intro L_ w24 hX_ hs_ hf_ hd_
 obtain ⟨_, e5, rfl⟩ := hd_ 5 rfl
 refine W.s1 (e5 _ rfl) ?_
 refine W.loadB rfl Tryz.underlying101 rfl (hB3.ext hX_) (map_get (by omega)) rfl ?_
 exact W.e0 rfl
 refine And.intro ?_ ?_
 intro L_ w24 hX_ hs_ hf_ hd_
 obtain ⟨_, e3, rfl⟩ := hd_ 3 rfl
 obtain ⟨_, e6, rfl⟩ := hd_ 6 rfl
 refine W.s2 (e3 _ rfl) (e6 _ rfl) ?_
 refine W.addU (M := 4294967296) rfl rfl rfl rfl rfl ?_
 exact W.e0 rfl
 refine And.intro ?_ ?_
 intro L_ w24 hX_ hs_ hf_ hd_
 obtain ⟨_, e0, rfl⟩ := hd_ 0 rfl
 refine W.s2 (hs_ 10 _ rfl) (e0 _ rfl) ?_
 refine W.indexA1 Words.X32 Tryz.underlying140 rfl rfl (by first | omega | decide) rfl ?_
 exact W.e0 rfl
 exact trivial
 intro L_ w24 hX24 hs_ hv_
 obtain ⟨_, e8, rfl⟩ := hv_ 8 (by decide)
 obtain ⟨_, e7, rfl⟩ := hv_ 7 (by decide)
 refine W.weaken (l' := [(162, _), (161, _), (3, _), (6, _), (10, _), (17, _)]) (sc (e8 _ rfl) (sc (e7 _ rfl) (sc (hs_ _ _ rfl) (sc (hs_ _ _ rfl) (sc (hs_ _ _ rfl) (sc (hs_ _ _ rfl) (Sub.nil))))))) ?_
 refine W.store1 rfl rfl rfl (hB10.ext hX24) (by rw [List.length_map]; omega) (by kernel_rfl) ?_
 intro w9 hc9 hB9
 have hB9' : Bk w9 g10 ((mid8 (rnd hs K U 64) hs (j + 1)).map u32V) := by
   rw [← mid8_set hR hh (by omega), List.map_set]
   exact hB9
 refine W.nil (At.blockNormal (At.thenCode (C.region (W.move rfl rfl ?_))))
 refine W.addI rfl rfl (by omega) rfl ?_
 refine W.assign rfl rfl (W.nil ?_)
 refine At.thenRound (j + 1) (sc rfl (sc rfl (sc rfl (sc (look_eq rfl (by rw [show (j : Int) + 1 = ((j + 1 : Nat) : Int) by omega])) (Sub.nil))))) (show Ext w _ ∧ (j + 1) ≤ 8 ∧ Bk _ g3 (hs.map u32V) ∧ Bk _ g6 (List.replicate 8 (u32V 0)) ∧ Bk _ g10 ((mid8 (rnd hs K U 64) hs (j + 1)).map u32V) from ?_) (show 8 - (j + 1) < 8 - j from ?_)
 exact ⟨(hX4.ext hX24).news hc9 (fun k hk => Or.inr (by omega)), by omega, (hB3.ext hX24).chg hc9 (by omega), (hB6.ext hX24).chg hc9 (by omega), hB9'⟩
 omega
 refine C.exit (At.thenExit (At.thenExit (At.blockSelf (At.thenCode (C.seq (C.region ?_))))))
 obtain rfl : j = 8 := by omega
 rw [mid8_full hR hh, addL_comm] at hB10
 have hml : (mixV hs K U).length = 8 := mixV_length hh _ _
 refine W.loadA (cs := (mixV hs K U).map u32V) rfl (hB10.cells (o := 0)) Tryz.underlying140 rfl (by rw [List.length_map, hml]; kernel_rfl) rfl ?_
 refine W.storeA ((mixV hs K U).map u32V) rfl rfl hB6 (by rw [List.length_map, hml]; rfl) (by rw [List.length_map, hml]; kernel_rfl) (u32_oneCell _) ?_
 intro wz hcz hBz
 refine W.nil (At.thenCode (C.ret ?_))
 -- RESULT IN A CELL
 refine At.retC Tryz.results101 rfl (hBz.cells (o := 0)) Tryz.underlying140 rfl (by rw [List.drop_zero, List.length_map, hml]; kernel_rfl) ⟨rfl, ?_⟩
 exact hX4.news hcz (fun k hk => Or.inr (by omega))
theorem Written_ok (w : World) : Ct Tryz.prog 100 #[] w (fun v w' => (∃ ao c, v = .tuple #[.slice ao 64 c, .agg (shaH.map u32V).toArray] ∧ Sl w' ao 64 c 1 (shaK.map u32V) ∧ ∀ ad, ao = some ad → w.heap.size ≤ ad.block) ∧ Ext w w') := by
 refine Ct.enter [] Tryz.func100 rfl rfl rfl rfl ?_
 refine C.seq (C.region (W.assign rfl rfl ?_))
 refine W.alloc (z := .agg (List.replicate 8 (u32V 0)).toArray) (List.replicate 8 (u32V 0)) (by kernel_rfl) rfl rfl ?_
 intro g1 w1 hg1 hX1 hB1
 have hl1 := hB1.lt
 refine W.nil (At.thenCode (C.seq (C.region ?_)))
 refine W.buildA (shaH.map u32V) (List.replicate 8 (u32V 0)) X32 Tryz.underlying140 (by kernel_rfl) rfl rfl (u32_oneCell _) rfl rfl ?_
 refine W.alloc (z := .agg (List.replicate 8 (u32V 0)).toArray) (List.replicate 8 (u32V 0)) (by kernel_rfl) rfl rfl ?_
 intro g2 w2 hg2 hX2 hB2
 have hs1 := hX1.size
 refine W.storeA (shaH.map u32V) rfl rfl hB2 rfl (by kernel_rfl) (u32_oneCell _) ?_
 intro w3 hc3 hB2
 have hX3 : Ext w w3 := (hX1.ext hX2).news hc3 (fun k hk => Or.inr (by omega))
 have hB1 := (hB1.ext hX2).chg hc3 (by omega)
 refine W.nil (At.thenCode (C.seq ?_))
 refine C.regionAny 3 ((fun v w => ∃ ao c, v = .slice ao 64 c ∧ Sl w ao 64 c 1 (shaK.map u32V) ∧ ∀ ad, ao = some ad → w3.heap.size ≤ ad.block) :: E_ (.agg (shaH.map u32V).toArray) :: (fun v w => ∃ ao c, v = .slice ao 64 c ∧ Sl w ao 64 c 1 (shaK.map u32V) ∧ ∀ ad, ao = some ad → w3.heap.size ≤ ad.block) :: []) [(1, .pointer (some ⟨g1, 0, none⟩)), (2, .pointer (some ⟨g2, 0, none⟩))] [] (sc rfl (sc rfl (Sub.nil))) (Sub.nil) (sc rfl (sc rfl (Sub.nil))) (by kernel_rfl) rfl rfl rfl (sM (fun _ _ _ ⟨ao, c, e, h, hb⟩ g => ⟨ao, c, e, Sl.ext h g, hb⟩) (sN (sM (fun _ _ _ ⟨ao, c, e, h, hb⟩ g => ⟨ao, c, e, Sl.ext h g, hb⟩) (trivial)))) ?_ ?_
 refine And.intro ?_ ?_
 intro L_ w5 hX_ hs_ hf_ hd_
 refine W.step [] (Sub.refl _) ?_
 refine W.litV (shaK.map u32V) X32 Tryz.underlying151 rfl rfl (u32_oneCell _) rfl rfl rfl ?_
 intro g4 w4 hg4 hX4 ho4 hS4
 exact W.e1 hX4 ⟨_, _, rfl, hS4, fun ad e => by obtain rfl := Option.some.inj e; have := hX_.size; show w3.heap.size ≤ g4; omega⟩
 refine And.intro ?_ ?_
 intro L_ w5 hX_ hs_ hf_ hd_
 refine W.s1 (hs_ 2 _ rfl) ?_
 refine W.loadA rfl ((hB2.ext hX_).cells (o := 0)) Tryz.underlying140 rfl (by kernel_rfl) rfl ?_
 exact W.e0 rfl
 refine And.intro ?_ ?_
 intro L_ w5 hX_ hs_ hf_ hd_
 obtain ⟨v0, e0, r0⟩ := hd_ 0 rfl
 obtain ⟨ao0, c0, rfl, hS0, hb0⟩ := r0
 refine W.s1 (e0 _ rfl) (W.assign rfl rfl ?_)
 exact W.e0 ⟨_, _, rfl, hS0, hb0⟩
 exact trivial
 intro L_ w5 hX2 hs_ hv_
 obtain ⟨v2, e2, r2⟩ := hv_ 2 (by decide)
 obtain ⟨ao2, c2, rfl, hS2, hb2⟩ := r2
 obtain ⟨_, e1, rfl⟩ := hv_ 1 (by decide)
 refine W.weaken (l' := [(0, _), (5, _), (1, _), (2, _)]) (sc (e2 _ rfl) (sc (e1 _ rfl) (sc (hs_ _ _ rfl) (sc (hs_ _ _ rfl) (Sub.nil))))) ?_
 refine W.storeA (shaH.map u32V) rfl rfl (hB1.ext hX2) rfl (by kernel_rfl) (u32_oneCell _) ?_
 intro w6 hc6 hB6
 refine W.nil (At.thenCode (C.ret ?_))
 -- RESULT IN A CELL
 refine At.retTC Tryz.results100 rfl rfl (hB6.cells (o := 0)) Tryz.underlying140 rfl (by kernel_rfl) ⟨⟨_, _, rfl, Sl.chg hS2 hc6 (fun ad e _ hk => ?_), fun ad e => ?_⟩, ?_⟩
 have := hb2 ad e
 have := (hB1.lt : g1 < w3.heap.size)
 omega
 have := hb2 ad e
 have := hX3.size
 omega
 exact (hX3.ext hX2).news hc6 (fun k hk => Or.inr (by omega))
theorem getV_take {xs : List UInt8} {i : Nat} (h : 4 * i + 4 ≤ 64) (hl : 64 ≤ xs.length) : getV xs ((4 * i : Nat) : Int) 4 = getV (xs.take 64) ((4 * i : Nat) : Int) 4 := by
 have e1 : getE xs ((4 * i : Nat) : Int) 4 = 0 := getE_0.2 (by omega)
 have e2 : getE (xs.take 64) ((4 * i : Nat) : Int) 4 = 0 := getE_0.2 (by rw [List.length_take]; omega)
 rw [getV, if_pos e1, getV, if_pos e2, Int.toNat_natCast, List.drop_take, List.take_take, Nat.min_eq_left (by omega)]
def part32 (l : List UInt8) : List Value := l.map byteV ++ List.replicate (32 - l.length) (byteV 0)
theorem part32_length {l : List UInt8} (h : l.length ≤ 32) : (part32 l).length = 32 := by simp [part32]; omega
theorem part32_set {l : List UInt8} (h : l.length < 32) (v : UInt8) : (part32 l).set l.length (byteV v) = part32 (l ++ [v]) := by
 unfold part32
 rw [List.set_append_right _ _ (by simp), List.length_map, Nat.sub_self, List.map_append, List.append_assoc]
 congr 1
 rw [show 32 - l.length = (32 - (l ++ [v]).length) + 1 by simp; omega, List.replicate_succ]
 rfl
theorem part32_full {l : List UInt8} (h : l.length = 32) : part32 l = l.map byteV := by simp [part32, h]
theorem RSha_ok (ao : Option Addr) (c : Nat) (xs : List UInt8) (w : World) (hS : Bs w ao c xs) (hl : xs.length ≤ 1000000) :
   Ct Tryz.prog 61 #[.slice ao xs.length c] w (fun v w' => v = keyV (shaV xs) ∧ Ext w w') := by
 refine Ct.enter [(0, .slice ao xs.length c)] Tryz.func61 rfl rfl rfl rfl ?_
 refine C.seq (C.region ?_)
 refine W.alloc (z := .agg (List.replicate 32 (byteV 0)).toArray) (List.replicate 32 (byteV 0)) (by kernel_rfl) rfl rfl ?_
 intro g2 w2 hg2 hX2 hB2
 have hl2 := hB2.lt
 refine W.nil (At.thenCode (C.seq (C.region ?_)))
 refine W.call Tryz.call100 rfl (Written_ok _) rfl ?_
 rintro v15 w15 ⟨⟨ao15, c15, rfl, hS15, hb15⟩, hX15⟩
 refine W.move rfl rfl (W.extract rfl rfl rfl (W.extract rfl rfl rfl ?_))
 refine W.alloc (z := .agg (List.replicate 8 (u32V 0)).toArray) (List.replicate 8 (u32V 0)) (by kernel_rfl) rfl rfl ?_
 intro g4 w4 hg4 hX4 hB4
 have hl4 := hB4.lt
 have hs2 := hX2.size
 have hs15 := hX15.size
 have hs4 := hX4.size
 have hn24 : g2 ≠ g4 := by omega
 have hb2 : w.heap.size ≤ g2 := by omega
 have hb4 : w.heap.size ≤ g4 := by omega
 refine W.assign rfl rfl ?_
 refine W.storeA (shaH.map u32V) rfl rfl hB4 rfl (by kernel_rfl) (u32_oneCell _) ?_
 intro w6 hc6 hB4
 have hX6 : Ext w w6 := ((hX2.ext hX15).ext hX4).news hc6 (fun k hk => Or.inr (by omega))
 have hB2 := ((hB2.ext hX15).ext hX4).chg hc6 (by omega)
 have hSK : Sl w6 ao15 64 c15 1 (shaK.map u32V) := (hS15.ext hX4).chg hc6 (fun ad e hne hk => by have := hS15.blk e hne; omega)
 have hKlt : ∀ ad, ao15 = some ad → ad.block < g4 := fun ad e => by have := hS15.blk e (by decide); omega
 have hKge : ∀ ad, ao15 = some ad → g2 < ad.block := fun ad e => by have := hb15 ad e; omega
 refine W.nil (At.thenCode (C.seq (C.region (W.move rfl rfl ?_))))
 refine W.appendB E8 Tryz.underlying22 rfl rfl (Ow.nil w6 w6.heap.size 5) (hS.ext hX6) (by simp; omega) (Nat.le_refl _) rfl ?_
 rw [List.nil_append]
 intro v19 w19 ho19 hg19 _
 have hX19 : Ext w6 w19 := (Chg.of_grown hg19).mono fun k hk => by cases hk
 refine W.litB [128] E8 Tryz.underlying22 rfl rfl rfl rfl rfl ?_
 intro g20 w20 hg20 hX20 _ hb20
 have ho20 := ownsRow_ext ho19 hX20
 refine W.appendB E8 Tryz.underlying22 rfl rfl ho20 hb20 (by simp; omega) (by have := hX19.size; have := hX20.size; omega) rfl ?_
 intro v21 w21 ho21 hg21 _
 have hX21 : Ext w6 w21 := (hX19.ext hX20).news (Chg.of_grown hg21) (fun k hk => Or.inr ((World.ownsRow.lt ho20 k hk.symm).1))
 have hz : padZ xs.length < 64 ∧ (xs.length + 1 + padZ xs.length) % 64 = 56 := by unfold padZ; omega
 refine W.assign rfl rfl (W.nil (At.thenCode (C.seq (C.block ?_))))
 refine C.loop (X := Nat × Value) (fun x_ => [(0, .slice ao xs.length c), (2, .pointer (some ⟨g2, 0, none⟩)), (3, .slice ao15 64 c15), (4, .pointer (some ⟨g4, 0, none⟩)), (5, x_.2)]) (fun x_ w1 => Ext w6 w1 ∧ x_.1 ≤ padZ xs.length ∧ Ow w1 w6.heap.size 5 x_.2 (xs ++ [128] ++ List.replicate x_.1 0)) (fun x_ => padZ xs.length - x_.1) (0, v21) (sc rfl (sc rfl (sc rfl (sc rfl (sc rfl (Sub.nil)))))) ?start1 ?_
 case start1 =>
   show Ext w6 _ ∧ (0) ≤ padZ xs.length ∧ Ow _ w6.heap.size 5 (v21) (xs ++ [128] ++ List.replicate (0) 0)
   exact ⟨hX21, by omega, by rw [List.replicate_zero, List.append_nil]; exact ho21⟩
 rintro ⟨k, v⟩ w1 hI_
 replace hI_ : Ext w6 w1 ∧ k ≤ padZ xs.length ∧ Ow w1 w6.heap.size 5 v (xs ++ [128] ++ List.replicate k 0) := hI_
 obtain ⟨hX1, hk, hO1⟩ := hI_
 refine C.weaken (l' := [(0, .slice ao xs.length c), (2, .pointer (some ⟨g2, 0, none⟩)), (3, .slice ao15 64 c15), (4, .pointer (some ⟨g4, 0, none⟩)), (5, v)]) (sc rfl (sc rfl (sc rfl (sc rfl (sc rfl (Sub.nil)))))) ?_
 obtain ⟨ao1, c1, rfl, hS1, hb1⟩ := ownsRow_form hO1
 have hln : (xs ++ [128] ++ List.replicate k (0 : UInt8)).length = xs.length + 1 + k := by simp; omega
 refine C.seq (C.seq (C.region (W.move rfl rfl (W.lenS rfl Tryz.underlying22 rfl ?_))))
 refine W.addI rfl rfl (by omega) rfl ?_
 refine W.remI rfl rfl (by omega) rfl ?_
 refine W.gtrI rfl rfl rfl (W.nil (At.thenCode ?_))
 refine C.condD rfl (fun c26 => ?_) (fun c26 => ?_)
 refine C.skip (At.thenCode (C.block (C.region (W.move rfl rfl ?_))))
 refine W.litB [0] E8 Tryz.underlying22 rfl rfl rfl rfl rfl ?_
 intro g13 w13 hg13 hX13 _ hb13
 have ho13 := ownsRow_ext hO1 hX13
 refine W.appendB E8 Tryz.underlying22 rfl rfl ho13 hb13 (by rw [hln, List.length_singleton]; omega) (by have := hX1.size; have := hX13.size; omega) rfl ?_
 intro v14 w14 ho14 hg14 _
 have hX14 : Ext w6 w14 := (hX1.ext hX13).news (Chg.of_grown hg14) (fun k hk => Or.inr ((World.ownsRow.lt ho13 k hk.symm).1))
 refine W.assign rfl rfl (W.nil (At.blockNormal ?_))
 refine At.thenRound (k + 1, v14) (sc rfl (sc rfl (sc rfl (sc rfl (sc rfl (Sub.nil)))))) (show Ext w6 _ ∧ (k + 1) ≤ padZ xs.length ∧ Ow _ w6.heap.size 5 (v14) (xs ++ [128] ++ List.replicate (k + 1) 0) from ?_) (show padZ xs.length - (k + 1) < padZ xs.length - k from ?_)
 refine ⟨hX14, by omega, ?_⟩
 rw [rep_snoc, ← List.append_assoc]
 exact ho14
 omega
 refine C.exit (At.thenExit (At.thenExit (At.blockSelf (At.thenCode (C.seq (C.region (W.move rfl rfl (W.move rfl rfl (W.lenS rfl Tryz.underlying22 rfl ?_)))))))))
 refine W.convIN (M := 18446744073709551616) rfl Tryz.underlying3 Tryz.underlying83 rfl rfl (by omega) rfl ?_
 refine W.shlU (M := 18446744073709551616) (B := 64) (s := 3) rfl rfl rfl rfl rfl rfl ?_
 have hS0 := hS.ext (hX6.ext hX1)
 obtain rfl : k = padZ xs.length := by omega
 refine W.call Tryz.call46 rfl (Words.RPut64_ok _ _ _ _ _ hS1 (by rw [hln]; omega)) rfl ?_
 rintro v35 w35 ⟨hO35, hX35⟩
 have hO35 := ownsRow_base hO35 hX1.size
 have e : shlM 18446744073709551616 64 ((xs.length : Int).toNat) 3 = xs.length * 8 := by
   unfold shlM
   rw [Int.toNat_natCast, show min 3 64 = 3 from rfl, show (2 : Nat) ^ 3 = 8 from rfl]
   omega
 rw [e] at hO35
 obtain ⟨al, hal⟩ : ∃ al, al = padV xs := ⟨_, rfl⟩
 have hal0 : al.length % 64 = 0 := by rw [hal]; exact padV_mod xs
 have hal1 : al.length ≤ xs.length + 72 := by rw [hal]; exact padV_le xs
 have hO35 : Ow w35 w6.heap.size 5 v35 al := by rw [hal]; exact hO35
 obtain ⟨ao5, c5, rfl, hS5, hb5⟩ := ownsRow_form hO35
 have hX35 := hX1.ext hX35
 have hlt4 := hB4.lt
 refine W.assign rfl rfl (W.nil (At.thenCode (C.seq (C.block ?_))))
 refine C.loop (X := Nat × (Option Addr) × Nat) (fun x_ => [(2, .pointer (some ⟨g2, 0, none⟩)), (3, .slice ao15 64 c15), (4, .pointer (some ⟨g4, 0, none⟩)), (5, .slice x_.2.1 (al.drop (64 * x_.1)).length x_.2.2)]) (fun x_ w2 => Ext w w2 ∧ Bs w2 x_.2.1 x_.2.2 (al.drop (64 * x_.1)) ∧ (∀ ad, x_.2.1 = some ad → g4 < ad.block) ∧ 64 * x_.1 ≤ al.length ∧ Sl w2 ao15 64 c15 1 (shaK.map u32V) ∧ Bk w2 g2 (List.replicate 32 (byteV 0)) ∧ Bk w2 g4 ((blkH al x_.1).map u32V)) (fun x_ => al.length - 64 * x_.1) (0, ao5, c5) (sc rfl (sc rfl (sc rfl (sc rfl (Sub.nil))))) ?start2 ?_
 case start2 =>
   show Ext w _ ∧ Bs _ (ao5) (c5) (al.drop (64 * (0))) ∧ (∀ ad, (ao5) = some ad → g4 < ad.block) ∧ 64 * (0) ≤ al.length ∧ Sl _ ao15 64 c15 1 (shaK.map u32V) ∧ Bk _ g2 (List.replicate 32 (byteV 0)) ∧ Bk _ g4 ((blkH al (0)).map u32V)
   exact ⟨hX6.ext hX35, hS5, fun ad e => by have := hb5 ad e; omega, by omega, hSK.ext hX35, hB2.ext hX35, hB4.ext hX35⟩
 rintro ⟨j, ap, cq⟩ w2 hI_
 replace hI_ : Ext w w2 ∧ Bs w2 ap cq (al.drop (64 * j)) ∧ (∀ ad, ap = some ad → g4 < ad.block) ∧ 64 * j ≤ al.length ∧ Sl w2 ao15 64 c15 1 (shaK.map u32V) ∧ Bk w2 g2 (List.replicate 32 (byteV 0)) ∧ Bk w2 g4 ((blkH al j).map u32V) := hI_
 obtain ⟨hX2, hSa, hbp, hj, hSK, hB2, hB4⟩ := hI_
 refine C.weaken (l' := [(2, .pointer (some ⟨g2, 0, none⟩)), (3, .slice ao15 64 c15), (4, .pointer (some ⟨g4, 0, none⟩)), (5, .slice ap (al.drop (64 * j)).length cq)]) (sc rfl (sc rfl (sc rfl (sc rfl (Sub.nil))))) ?_
 refine C.seq (C.seq (C.region (W.move rfl rfl (W.lenS rfl Tryz.underlying22 rfl (W.gtrI rfl rfl rfl (W.nil (At.thenCode ?_)))))))
 refine C.condD rfl (fun c38 => ?_) (fun c38 => ?_)
 have hdl : (al.drop (64 * j)).length = al.length - 64 * j := List.length_drop
 have h64 : 64 * j + 64 ≤ al.length := by omega
 obtain ⟨bl, hbl⟩ : ∃ bl, bl = (al.drop (64 * j)).take 64 := ⟨_, rfl⟩
 have hwl := wordsOf_length bl
 refine C.skip (At.thenCode (C.block (C.seq (C.region ?_))))
 refine W.alloc (z := .agg (List.replicate 64 (u32V 0)).toArray) (List.replicate 64 (u32V 0)) (by kernel_rfl) rfl rfl ?_
 intro g6 w7 hg6 hX7 hB6
 have hl2' := hX2.size
 have hlb4 := hB4.lt
 have hlb2 := hB2.lt
 have hn6 : g6 ≠ g2 ∧ g6 ≠ g4 ∧ w.heap.size ≤ g6 := by omega
 refine W.nil (At.thenCode (C.seq (C.seq (C.region (W.assign rfl rfl (W.nil (At.thenCode (C.block ?_))))))))
 refine C.loop (X := Nat) (fun x_ => [(2, .pointer (some ⟨g2, 0, none⟩)), (3, .slice ao15 64 c15), (4, .pointer (some ⟨g4, 0, none⟩)), (5, .slice ap (al.drop (64 * j)).length cq), (6, .pointer (some ⟨g6, 0, none⟩)), (7, .int .i64 (x_ : Int))]) (fun x_ w3 => Ext w2 w3 ∧ x_ ≤ 16 ∧ Bk w3 g6 (part64 ((wordsOf bl).take x_))) (fun x_ => 16 - x_) (0) (sc rfl (sc rfl (sc rfl (sc rfl (sc rfl (sc rfl (Sub.nil))))))) ?start3 ?_
 case start3 =>
   show Ext w2 _ ∧ (0) ≤ 16 ∧ Bk _ g6 (part64 ((wordsOf bl).take (0)))
   exact ⟨hX7, by omega, hB6⟩
 rintro i w3 hI_
 replace hI_ : Ext w2 w3 ∧ i ≤ 16 ∧ Bk w3 g6 (part64 ((wordsOf bl).take i)) := hI_
 obtain ⟨hX3, hi, hB6⟩ := hI_
 refine C.weaken (l' := [(2, .pointer (some ⟨g2, 0, none⟩)), (3, .slice ao15 64 c15), (4, .pointer (some ⟨g4, 0, none⟩)), (5, .slice ap (al.drop (64 * j)).length cq), (6, .pointer (some ⟨g6, 0, none⟩)), (7, .int .i64 (i : Int))]) (sc rfl (sc rfl (sc rfl (sc rfl (sc rfl (sc rfl (Sub.nil))))))) ?_
 refine C.seq (C.seq (C.region (W.move rfl rfl (W.lssI rfl rfl rfl (W.nil (At.thenCode ?_))))))
 refine C.condD rfl (fun c40 => ?_) (fun c40 => ?_)
 have htl : ((wordsOf bl).take i).length = i := by rw [List.length_take]; omega
 refine C.skip (At.thenCode (C.seq (C.block (C.seq (C.region (W.move rfl rfl (W.move rfl rfl ?_)))))))
 refine W.mulI rfl rfl (by omega) rfl ?_
 rw [show (4 : Int) * (i : Int) = ((4 * i : Nat) : Int) by omega]
 refine W.call Tryz.call60 rfl (Words.RGet32_ok _ _ _ _ _ (hSa.ext hX3) (by omega) (by omega)) rfl ?_
 rintro v w' ⟨rfl, rfl⟩
 rw [getV_take (by omega) (by omega), ← hbl, ← wordsOf_get bl (by omega)]
 refine W.move rfl rfl (W.extract rfl rfl rfl (W.extract rfl rfl rfl (W.assign rfl rfl (W.assign rfl rfl (W.nil (At.thenCode (C.region (W.move rfl rfl (W.move rfl rfl ?_)))))))))
 refine W.indexA1 Words.X32 Tryz.underlying142 rfl rfl (by first | omega | decide) rfl ?_
 refine W.store1 rfl rfl rfl hB6 (by rw [part64_length (by omega)]; omega) (by kernel_rfl) ?_
 intro w9 hc9 hB9
 have hB9' : Bk w9 g6 (part64 ((wordsOf bl).take (i + 1))) := by
   have := part64_set (l := (wordsOf bl).take i) (by omega) ((wordsOf bl).getD i 0)
   rw [htl] at this
   have e2 : (wordsOf bl).take (i + 1) = (wordsOf bl).take i ++ [(wordsOf bl).getD i 0] := by
     rw [List.take_succ_eq_append_getElem (by omega)]
     simp [List.getD, show i < (wordsOf bl).length by omega]
   rw [e2, ← this]
   exact hB9
 refine W.nil (At.blockNormal (At.thenCode (C.region (W.move rfl rfl ?_))))
 refine W.addI rfl rfl (by omega) rfl ?_
 refine W.assign rfl rfl (W.nil ?_)
 refine At.thenRound (i + 1) (sc rfl (sc rfl (sc rfl (sc rfl (sc rfl (sc (look_eq rfl (by rw [show (i : Int) + 1 = ((i + 1 : Nat) : Int) by omega])) (Sub.nil))))))) (show Ext w2 _ ∧ (i + 1) ≤ 16 ∧ Bk _ g6 (part64 ((wordsOf bl).take (i + 1))) from ?_) (show 16 - (i + 1) < 16 - i from ?_)
 exact ⟨hX3.news hc9 (fun k hk => Or.inr (by omega)), by omega, hB9'⟩
 omega
 obtain rfl : i = 16 := by omega
 rw [List.take_of_length_le (by omega)] at hB6
 refine C.exit (At.thenExit (At.thenExit (At.blockSelf (At.thenCode (C.seq (C.region ?_))))))
 refine W.loadA rfl ((hB4.ext hX3).cells (o := 0)) Tryz.underlying140 rfl (by rw [List.drop_zero, List.length_map, blkH_length]; kernel_rfl) rfl ?_
 refine W.loadA rfl (hB6.cells (o := 0)) Tryz.underlying142 rfl (by rw [List.drop_zero, part64_length (by omega)]; kernel_rfl) rfl ?_
 refine W.move rfl rfl ?_
 refine W.call Tryz.call101 rfl (mixed_ok (blkH_length al j) (blkH_lt al j) hwl (wordsOf_lt bl) _ _ _ (hSK.ext hX3)) rfl ?_
 rintro v56 w56 ⟨rfl, hX56⟩
 refine W.storeA ((blkH al (j + 1)).map u32V) rfl (by rw [hbl]; rfl) ((hB4.ext hX3).ext hX56) (by rw [List.length_map, List.length_map, blkH_length, blkH_length]) (by rw [List.length_map, blkH_length]; kernel_rfl) (u32_oneCell _) ?_
 intro w57 hc57 hB57
 refine W.nil (At.thenCode (C.region (W.move rfl rfl ?_)))
 have hS57 := ((hSa.ext hX3).ext hX56).chg hc57 (fun ad e _ hk => by have := hbp ad e; omega)
 refine W.slice (lo := 64) (hi := (al.drop (64 * j)).length) E8 Tryz.underlying22 rfl hS57 (.inr ⟨_, _, rfl, rfl⟩) (.inl ⟨rfl, rfl⟩) (by omega) (by omega) rfl ?_
 intro ao58 c58 hS58 hblk58
 have hlen58 : (al.drop (64 * (j + 1))).length = (al.drop (64 * j)).length - 64 := by rw [List.length_drop, List.length_drop]; omega
 have hS58 : Bs w57 ao58 c58 (al.drop (64 * (j + 1))) := by
   show Sl _ _ _ _ _ _
   rw [hlen58]
   rw [Nat.mul_one, Nat.mul_one, ← List.map_drop, ← List.map_take, List.take_of_length_le (by rw [List.length_drop]; omega), List.drop_drop] at hS58
   exact hS58
 rw [← hlen58]
 refine W.assign rfl rfl (W.nil (At.blockNormal ?_))
 refine At.thenRound (j + 1, ao58, c58) (sc rfl (sc rfl (sc rfl (sc rfl (Sub.nil))))) (show Ext w _ ∧ Bs _ (ao58) (c58) (al.drop (64 * (j + 1))) ∧ (∀ ad, (ao58) = some ad → g4 < ad.block) ∧ 64 * (j + 1) ≤ al.length ∧ Sl _ ao15 64 c15 1 (shaK.map u32V) ∧ Bk _ g2 (List.replicate 32 (byteV 0)) ∧ Bk _ g4 ((blkH al (j + 1)).map u32V) from ?_) (show al.length - 64 * (j + 1) < al.length - 64 * j from ?_)
 refine ⟨((hX2.ext hX3).ext hX56).news hc57 (fun k hk => Or.inr (by omega)), hS58, fun ad e => ?_, by omega, ((hSK.ext hX3).ext hX56).chg hc57 (fun ad e _ hk => by have := hKlt ad e; omega), ((hB2.ext hX3).ext hX56).chg hc57 (by omega), hB57⟩
 obtain ⟨a, ha1, ha2⟩ := hblk58 ad e
 rw [ha2]; exact hbp a ha1
 omega
 have hdl : (al.drop (64 * j)).length = al.length - 64 * j := List.length_drop
 have hjn : j = al.length / 64 := by omega
 have hHl := blkH_length al j
 obtain ⟨H, hH⟩ : ∃ H, H = blkH al j := ⟨_, rfl⟩
 rw [← hH] at hB4 hHl
 refine C.exit (At.thenExit (At.thenExit (At.blockSelf (At.thenCode (C.seq (C.region (W.assign rfl rfl (W.nil (At.thenCode (C.seq (C.seq ?_)))))))))))
 refine C.region (W.assign rfl rfl (W.nil (At.thenCode (C.block ?_))))
 refine C.loop (X := Nat × Value) (fun x_ => [(2, .pointer (some ⟨g2, 0, none⟩)), (4, .pointer (some ⟨g4, 0, none⟩)), (10, x_.2), (11, .int .i64 (x_.1 : Int))]) (fun x_ w4 => Ext w w4 ∧ x_.1 ≤ 8 ∧ Bk w4 g2 (List.replicate 32 (byteV 0)) ∧ Bk w4 g4 (H.map u32V) ∧ ∃ b, Ow w4 b 5 x_.2 (be32L (H.take x_.1))) (fun x_ => 8 - x_.1) (0, .slice none 0 0) (sc rfl (sc rfl (sc rfl (sc rfl (Sub.nil))))) ?start4 ?_
 case start4 =>
   show Ext w _ ∧ (0) ≤ 8 ∧ Bk _ g2 (List.replicate 32 (byteV 0)) ∧ Bk _ g4 (H.map u32V) ∧ ∃ b, Ow _ b 5 (.slice none 0 0) (be32L (H.take (0)))
   exact ⟨hX2, by omega, hB2, hB4, 0, Ow.nil _ _ _⟩
 rintro ⟨i, v⟩ w4 hI_
 replace hI_ : Ext w w4 ∧ i ≤ 8 ∧ Bk w4 g2 (List.replicate 32 (byteV 0)) ∧ Bk w4 g4 (H.map u32V) ∧ ∃ b, Ow w4 b 5 v (be32L (H.take i)) := hI_
 obtain ⟨hX4, hi, hB2, hB4, b4', hO4⟩ := hI_
 refine C.weaken (l' := [(2, .pointer (some ⟨g2, 0, none⟩)), (4, .pointer (some ⟨g4, 0, none⟩)), (10, v), (11, .int .i64 (i : Int))]) (sc rfl (sc rfl (sc rfl (sc rfl (Sub.nil))))) ?_
 obtain ⟨ao4, c4, rfl, hS4, hb4'⟩ := ownsRow_form hO4
 have hbl := be32L_length (H.take i)
 rw [List.length_take] at hbl
 refine C.seq (C.seq (C.region (W.move rfl rfl (W.lssI rfl rfl rfl (W.nil (At.thenCode ?_))))))
 refine C.condD rfl (fun c60 => ?_) (fun c60 => ?_)
 refine C.skip (At.thenCode (C.seq (C.block (C.region (W.move rfl rfl (W.move rfl rfl ?_))))))
 refine W.indexA1 Words.X32 Tryz.underlying140 rfl rfl (by first | omega | decide) rfl ?_
 refine W.loadB rfl Tryz.underlying101 rfl hB4 (map_get (by omega)) rfl ?_
 refine W.call Tryz.call87 rfl (Words.RPut32_ok _ _ _ _ _ hS4 (by omega)) rfl ?_
 rintro v67 w67 ⟨hO67, hX67⟩
 refine W.assign rfl rfl (W.nil (At.blockNormal (At.thenCode (C.region (W.move rfl rfl ?_)))))
 refine W.addI rfl rfl (by omega) rfl ?_
 refine W.assign rfl rfl (W.nil ?_)
 refine At.thenRound (i + 1, v67) (sc rfl (sc rfl (sc rfl (sc (look_eq rfl (by rw [show (i : Int) + 1 = ((i + 1 : Nat) : Int) by omega])) (Sub.nil))))) (show Ext w _ ∧ (i + 1) ≤ 8 ∧ Bk _ g2 (List.replicate 32 (byteV 0)) ∧ Bk _ g4 (H.map u32V) ∧ ∃ b, Ow _ b 5 (v67) (be32L (H.take (i + 1))) from ?_) (show 8 - (i + 1) < 8 - i from ?_)
 refine ⟨hX4.ext hX67, by omega, hB2.ext hX67, hB4.ext hX67, w4.heap.size, ?_⟩
 have e : H.take (i + 1) = H.take i ++ [H.getD i 0] := by
   rw [List.take_succ_eq_append_getElem (by omega)]
   simp [List.getD, show i < H.length by omega]
 rw [e, be32L_snoc]
 exact hO67
 omega
 obtain rfl : i = 8 := by omega
 rw [List.take_of_length_le (by omega)] at hO4 hS4 hbl
 rw [List.take_of_length_le (by omega)]
 have hbl32 : (be32L H).length = 32 := by rw [be32L_length, hHl]
 have hsv : shaV xs = be32L H := by rw [shaV, ← hal, hH, hjn]
 obtain ⟨out, hout⟩ : ∃ out, out = be32L H := ⟨_, rfl⟩
 rw [← hout] at hS4 hbl32 ⊢
 refine C.exit (At.thenExit (At.thenExit (At.blockSelf (At.thenCode (C.seq (C.region ?_))))))
 refine W.alloc (z := .agg (List.replicate 32 (byteV 0)).toArray) (List.replicate 32 (byteV 0)) (by kernel_rfl) rfl rfl ?_
 intro g12 w12 hg12 hX12 hB12
 have hlb2 := hB2.lt
 have hn12 : g12 ≠ g2 ∧ w.heap.size ≤ g12 := by have := hX4.size; omega
 refine W.nil (At.thenCode (C.seq (C.seq (C.region (W.assign rfl rfl (W.nil (At.thenCode (C.block ?_))))))))
 refine C.loop (X := Nat) (fun x_ => [(2, .pointer (some ⟨g2, 0, none⟩)), (10, .slice ao4 out.length c4), (12, .pointer (some ⟨g12, 0, none⟩)), (13, .int .i64 (x_ : Int))]) (fun x_ w5 => Ext w4 w5 ∧ x_ ≤ 32 ∧ Bk w5 g12 (part32 (out.take x_))) (fun x_ => 32 - x_) (0) (sc rfl (sc rfl (sc rfl (sc rfl (Sub.nil))))) ?start5 ?_
 case start5 =>
   show Ext w4 _ ∧ (0) ≤ 32 ∧ Bk _ g12 (part32 (out.take (0)))
   exact ⟨hX12, by omega, hB12⟩
 rintro i w5 hI_
 replace hI_ : Ext w4 w5 ∧ i ≤ 32 ∧ Bk w5 g12 (part32 (out.take i)) := hI_
 obtain ⟨hX5, hi, hB12⟩ := hI_
 refine C.weaken (l' := [(2, .pointer (some ⟨g2, 0, none⟩)), (10, .slice ao4 out.length c4), (12, .pointer (some ⟨g12, 0, none⟩)), (13, .int .i64 (i : Int))]) (sc rfl (sc rfl (sc rfl (sc rfl (Sub.nil))))) ?_
 refine C.seq (C.seq (C.region (W.move rfl rfl (W.lssI rfl rfl rfl (W.nil (At.thenCode ?_))))))
 refine C.condD rfl (fun c69 => ?_) (fun c69 => ?_)
 have hlt : i < out.length := by omega
 have htl : (out.take i).length = i := by rw [List.length_take]; omega
 refine C.skip (At.thenCode (C.seq (C.block (C.region (W.move rfl rfl (W.move rfl rfl (W.move rfl rfl ?_)))))))
 refine W.idx (v := byteV (out[i]'hlt)) E8 Tryz.underlying22 Tryz.underlying5 rfl rfl (hS4.ext hX5) rfl (by omega) ?_ rfl rfl ?_
 exact get_byte hlt
 intro p75
 -- read with the address
 refine W.indexA1 Words.X8 Tryz.underlying43 rfl rfl (by first | omega | decide) rfl ?_
 refine W.store1 rfl rfl rfl hB12 (by rw [part32_length (by omega)]; omega) (by kernel_rfl) ?_
 intro w9 hc9 hB9
 have hB9' : Bk w9 g12 (part32 (out.take (i + 1))) := by
   have := part32_set (l := out.take i) (by omega) (out[i]'hlt)
   rw [htl] at this
   rw [List.take_succ_eq_append_getElem hlt, ← this]
   exact hB9
 refine W.nil (At.blockNormal (At.thenCode (C.region (W.move rfl rfl ?_))))
 refine W.addI rfl rfl (by omega) rfl ?_
 refine W.assign rfl rfl (W.nil ?_)
 refine At.thenRound (i + 1) (sc rfl (sc rfl (sc rfl (sc (look_eq rfl (by rw [show (i : Int) + 1 = ((i + 1 : Nat) : Int) by omega])) (Sub.nil))))) (show Ext w4 _ ∧ (i + 1) ≤ 32 ∧ Bk _ g12 (part32 (out.take (i + 1))) from ?_) (show 32 - (i + 1) < 32 - i from ?_)
 exact ⟨hX5.news hc9 (fun k hk => Or.inr (by omega)), by omega, hB9'⟩
 omega
 obtain rfl : i = 32 := by omega
 rw [List.take_of_length_le (by omega), part32_full hbl32] at hB12
 refine C.exit (At.thenExit (At.thenExit (At.blockSelf (At.thenCode (C.seq (C.region ?_))))))
 refine W.loadA rfl (hB12.cells (o := 0)) Tryz.underlying43 rfl (by rw [List.drop_zero, List.length_map, hbl32]; kernel_rfl) rfl ?_
 refine W.storeA (out.map byteV) rfl rfl (hB2.ext hX5) (by rw [List.length_map, hbl32]; rfl) (by rw [List.length_map, hbl32]; kernel_rfl) (bytes_oneCell _) ?_
 intro wz hcz hBz
 refine W.nil (At.thenCode (C.ret ?_))
 -- RESULT IN A CELL
 refine At.retC Tryz.results61 rfl (hBz.cells (o := 0)) Tryz.underlying43 rfl (by rw [List.drop_zero, List.length_map, hbl32]; kernel_rfl) ⟨?_, ?_⟩
 rw [hsv, ← hout]; rfl
 exact (hX4.ext hX5).news hcz (fun k hk => Or.inr (by omega))
theorem EB : Elem Tryz.prog 22 1 24 (.slice none 0 0) := Elem.of (by kernel_rfl) rfl rfl
def partsV : List (List UInt8) → List UInt8
  | [] => []
  | x :: r => be64 x.length ++ x ++ partsV r
end Go.Proofs.YthiijdbiikljpaaGreat.RSha
namespace Go.Proofs.YthiijdbiikljpaaGreat.Cod
open Go Go.RowKit Go.Proofs.YthiijdbiikljpaaGreat.KW Go.Proofs.YthiijdbiikljpaaGreat.Words Go.Proofs.YthiijdbiikljpaaGreat.Grp
set_option linter.unusedVariables false
set_option linter.unusedSimpArgs false
set_option maxRecDepth 100000
theorem putsL_append (a b : List Nat) : putsL (a ++ b) = putsL a ++ putsL b := by
 induction a with
 | nil => rfl
 | cons x r ih => simp only [List.cons_append, putsL, ih, List.append_assoc]
theorem putsL_length (l : List Nat) : (putsL l).length = 8 * l.length := by
 induction l with
 | nil => rfl
 | cons x r ih => simp only [putsL, List.length_append, be64_length, ih, List.length_cons]; omega
def be64c (x : Nat) : List UInt8 := [UInt8.ofNat (x / 72057594037927936), UInt8.ofNat (x / 281474976710656), UInt8.ofNat (x / 1099511627776), UInt8.ofNat (x / 4294967296), UInt8.ofNat (x / 16777216), UInt8.ofNat (x / 65536), UInt8.ofNat (x / 256), UInt8.ofNat x]
theorem be64c_eq (x : Nat) : be64c x = be64 x := by
 simp only [be64c, be64, be32, List.cons_append, List.nil_append, List.cons.injEq, and_true]
 refine ⟨?_, ?_, ?_, ?_, ?_, ?_, ?_, ?_⟩ <;> (apply UInt8.toNat_inj.1; rw [ofNat_toNat, ofNat_toNat]; omega)
theorem Bk.one {w : World} {g : Nat} {v v' : Value} (h : Bk w g [v]) (h' : Bk w g [v']) : v = v' := by
 obtain ⟨e, h⟩ := h
 obtain ⟨e', h'⟩ := h'
 rw [h] at h'
 injection h' with h'
 injection h' with h1 _ _
 simpa using h1
def WS (w : World) (g : Nat) : Nat → Prop := fun k => k = g ∨ ∃ v, Bk w g [v] ∧ v.ownBlock = some k
structure Wr (w : World) (g base : Nat) (xs : List UInt8) : Prop where
  low : base ≤ g
  own : ∃ v, Bk w g [v] ∧ Ow w base 5 v xs ∧ v.ownBlock ≠ some g
theorem Wr.lt {w : World} {g base : Nat} {xs : List UInt8} (h : Wr w g base xs) {k : Nat} (hk : WS w g k) : base ≤ k ∧ k < w.heap.size := by
 obtain ⟨v, h1, h2, h3⟩ := h.own
 rcases hk with rfl | ⟨v', h4, h5⟩
 exact ⟨h.low, h1.lt⟩
 obtain rfl := Bk.one h1 h4
 exact World.ownsRow.lt h2 k h5
structure WrP (w : World) (g base : Nat) (xs : List UInt8) (w' : World) : Prop where
  wr : Wr w' g base xs
  chg : Chg (WS w g) w w'
  ws : ∀ k, WS w' g k → WS w g k ∨ w.heap.size ≤ k
theorem WrP.refl {w : World} {g base : Nat} {xs : List UInt8} (h : Wr w g base xs) : WrP w g base xs w := ⟨h, Chg.refl _ _, fun k hk => Or.inl hk⟩
theorem WrP.trans {w w1 w2 : World} {g base : Nat} {xs ys : List UInt8} (h : WrP w g base xs w1) (k : WrP w1 g base ys w2) : WrP w g base ys w2 :=
 ⟨k.wr, h.chg.news k.chg h.ws, fun q hq => by
   rcases k.ws q hq with h1 | h1
   exact h.ws q h1
   exact Or.inr (Nat.le_trans h.chg.size h1)⟩
theorem Wr.ext {w w' : World} {g base : Nat} {xs : List UInt8} (h : Wr w g base xs) (c : Ext w w') : WrP w g base xs w' := by
 obtain ⟨v, h1, h2, h3⟩ := h.own
 refine ⟨⟨h.low, v, h1.ext c, ownsRow_ext h2 c, h3⟩, c.mono fun k hk => hk.elim, fun k hk => Or.inl ?_⟩
 rcases hk with rfl | ⟨v', h4, h5⟩
 exact Or.inl rfl
 obtain rfl := Bk.one (h1.ext c) h4
 exact Or.inr ⟨v, h1, h5⟩
theorem WrP.ext {w w1 w2 : World} {g base : Nat} {xs : List UInt8} (h : WrP w g base xs w1) (c : Ext w1 w2) : WrP w g base xs w2 := h.trans (h.wr.ext c)
theorem Wr.ws_chg {S : Nat → Prop} {w w' : World} {g base : Nat} {xs : List UInt8} (h : Wr w g base xs) (c : Chg S w w') (hn : ∀ k, WS w g k → ¬ S k) {k : Nat} (hk : WS w' g k) : WS w g k := by
 obtain ⟨v, h1, h2, h3⟩ := h.own
 rcases hk with rfl | ⟨v', h4, h5⟩
 exact Or.inl rfl
 obtain rfl := Bk.one (h1.chg c (hn g (Or.inl rfl))) h4
 exact Or.inr ⟨v, h1, h5⟩
theorem Wr.step {w w1 w2 : World} {g base : Nat} {v v' : Value} {ys : List UInt8} (hlow : base ≤ g) (h : Bk w g [v]) (hn : v.ownBlock ≠ some g) (h1 : Ow w1 base 5 v' ys) (hg : w.grownBy w1 v.ownBlock) (hl : v'.ownBlock = v.ownBlock ∨ ∃ k, v'.ownBlock = some k ∧ w.heap.size ≤ k) (hc : Chg (fun k => k = g) w1 w2) (hb : Bk w2 g [v']) : WrP w g base ys w2 := by
 have hlt := h.lt
 have hne : v'.ownBlock ≠ some g := by
   rcases hl with hl | ⟨k, hl, hk⟩
   rw [hl]; exact hn
   rw [hl]; intro e; obtain rfl := Option.some.inj e; omega
 refine ⟨⟨hlow, v', hb, ownsRow_chg h1 hc (fun k hk e => hne (by rw [hk, e])), hne⟩, ?_, ?_⟩
 refine ((Chg.of_grown hg).mono ?_).trans (hc.mono fun k hk => Or.inl hk)
 intro k hk
 exact Or.inr ⟨v, h, hk.symm⟩
 intro k hk
 rcases hk with rfl | ⟨v2, h4, h5⟩
 exact Or.inl (Or.inl rfl)
 obtain rfl := Bk.one hb h4
 rcases hl with hl | ⟨k', hl, hk'⟩
 exact Or.inl (Or.inr ⟨v, h, by rw [← hl]; exact h5⟩)
 rw [hl] at h5; obtain rfl := Option.some.inj h5; exact Or.inr hk'
theorem Wr.mk' {w : World} {g base : Nat} (hlow : base ≤ g) (hb : Bk w g [.slice none 0 0]) : Wr w g base [] := ⟨hlow, _, hb, Ow.nil _ _ _, by intro e; cases e⟩
theorem own_one {w : World} {base e : Nat} {v : Value} {xs : List UInt8} (h : Ow w base e v xs) : v.oneCell' = true := by
 obtain ⟨ao, c, rfl, _, _⟩ := ownsRow_form h
 rfl
theorem us_take {l : List Nat} {i : Nat} (h : i < l.length) : putsL (l.take (i + 1)) = putsL (l.take i) ++ be64 (l[i]'h) := by
 rw [List.take_succ_eq_append_getElem h, putsL_append]
 simp [putsL]
theorem U64 : Elem Tryz.prog 83 1 8 (.int .u64 0) := Elem.of (by kernel_rfl) rfl rfl
theorem put_ok (g base : Nat) (ao : Option Addr) (c : Nat) (l : List Nat) (xs : List UInt8) (w : World) (hW : Wr w g base xs) (hl : Us w ao c l) (hn : ∀ ad, ao = some ad → l ≠ [] → ¬ WS w g ad.block) (hlen : xs.length + 8 * l.length ≤ 70368744177000) :
   Ct Tryz.prog 68 #[.pointer (some ⟨g, 0, none⟩), .slice ao l.length c] w (fun v w' => v = .tuple #[] ∧ WrP w g base (xs ++ putsL l) w') := by
 refine Ct.enter [(0, .pointer (some ⟨g, 0, none⟩)), (1, .slice ao l.length c)] Tryz.func68 rfl rfl rfl rfl ?_
 have hpl := putsL_length l
 refine C.seq (C.region (W.move rfl rfl (W.lenS rfl Tryz.underlying36 rfl (W.move rfl rfl (W.nil (At.thenCode (C.block ?_)))))))
 refine C.loop (X := Nat) (fun x_ => [(0, .pointer (some ⟨g, 0, none⟩)), (6, .slice ao l.length c), (7, .int .i64 (l.length : Int)), (8, .int .i64 (x_ : Int))]) (fun x_ w1 => x_ ≤ l.length ∧ WrP w g base (xs ++ putsL (l.take x_)) w1) (fun x_ => l.length - x_) (0) (sc rfl (sc rfl (sc rfl (sc rfl (Sub.nil))))) ?start1 ?_
 case start1 =>
   show (0) ≤ l.length ∧ WrP w g base (xs ++ putsL (l.take (0))) _
   exact ⟨by omega, by simpa [putsL] using WrP.refl hW⟩
 rintro i w1 hI_
 replace hI_ : i ≤ l.length ∧ WrP w g base (xs ++ putsL (l.take i)) w1 := hI_
 obtain ⟨hi, hP1⟩ := hI_
 refine C.weaken (l' := [(0, .pointer (some ⟨g, 0, none⟩)), (6, .slice ao l.length c), (7, .int .i64 (l.length : Int)), (8, .int .i64 (i : Int))]) (sc rfl (sc rfl (sc rfl (sc rfl (Sub.nil))))) ?_
 refine C.seq (C.region (W.lssI rfl rfl rfl (W.nil (At.thenCode (C.seq ?_)))))
 refine C.condD rfl (fun c9 => ?_) (fun c9 => ?_)
 have hlt : i < l.length := by omega
 have hl1 : Us w1 ao c l := Sl.chg hl hP1.chg (fun ad e hc => hn ad e (by rintro rfl; exact hc rfl))
 have hpt := us_take hlt
 have hptl := putsL_length (l.take i)
 have htl : (l.take i).length = i := by rw [List.length_take]; omega
 obtain ⟨vb, hB1, hO1, hne1⟩ := hP1.wr.own
 refine C.skip (At.thenCode (C.seq (C.block (C.seq (C.region ?_)))))
 refine W.idx (v := .int .u64 ((l[i] : Nat) : Int)) U64 Tryz.underlying36 Tryz.underlying83 rfl rfl hl1 rfl (by omega) (by rw [Int.toNat_natCast]; exact get_u64 hlt) rfl rfl ?_
 intro p10
 -- read with the address
 refine W.assign rfl rfl (W.nil (At.thenCode (C.region (W.move rfl rfl (W.move rfl rfl (W.nilCheck rfl rfl (W.fieldB (off := 0) (size := 1) (t := 22) (Fld.of (by kernel_rfl)) rfl rfl rfl ?_)))))))
 refine W.loadB rfl Tryz.underlying22 rfl (by assumption) rfl rfl ?_
 refine W.move rfl rfl ?_
 refine W.shrU (B := 64) (s := 56) rfl rfl rfl rfl ?_
 refine W.convUU (M := 256) rfl Tryz.underlying83 Tryz.underlying5 rfl rfl rfl ?_
 refine W.move rfl rfl ?_
 refine W.shrU (B := 64) (s := 48) rfl rfl rfl rfl ?_
 refine W.convUU (M := 256) rfl Tryz.underlying83 Tryz.underlying5 rfl rfl rfl ?_
 refine W.move rfl rfl ?_
 refine W.shrU (B := 64) (s := 40) rfl rfl rfl rfl ?_
 refine W.convUU (M := 256) rfl Tryz.underlying83 Tryz.underlying5 rfl rfl rfl ?_
 refine W.move rfl rfl ?_
 refine W.shrU (B := 64) (s := 32) rfl rfl rfl rfl ?_
 refine W.convUU (M := 256) rfl Tryz.underlying83 Tryz.underlying5 rfl rfl rfl ?_
 refine W.move rfl rfl ?_
 refine W.shrU (B := 64) (s := 24) rfl rfl rfl rfl ?_
 refine W.convUU (M := 256) rfl Tryz.underlying83 Tryz.underlying5 rfl rfl rfl ?_
 refine W.move rfl rfl ?_
 refine W.shrU (B := 64) (s := 16) rfl rfl rfl rfl ?_
 refine W.convUU (M := 256) rfl Tryz.underlying83 Tryz.underlying5 rfl rfl rfl ?_
 refine W.move rfl rfl ?_
 refine W.shrU (B := 64) (s := 8) rfl rfl rfl rfl ?_
 refine W.convUU (M := 256) rfl Tryz.underlying83 Tryz.underlying5 rfl rfl rfl ?_
 refine W.move rfl rfl ?_
 refine W.convUU (M := 256) rfl Tryz.underlying83 Tryz.underlying5 rfl rfl rfl ?_
 refine W.litB (be64c l[i]) E8 Tryz.underlying22 rfl ?_ rfl rfl rfl ?_
 simp only [be64c, List.map_cons, List.map_nil, byteV_ofNat]; rfl
 intro g40 w40 hg40 hX40 _ hb40
 rw [be64c_eq] at hb40
 have hO40 := ownsRow_ext hO1 hX40
 have hB40 := hB1.ext hX40
 refine W.appendB (ys := be64 l[i]) E8 Tryz.underlying22 rfl rfl hO40 hb40 (by rw [be64_length, List.length_append]; omega) (by have := hX40.size; have := hP1.chg.size; have := hB40.lt; have := hP1.wr.low; omega) rfl ?_
 intro v41 w41 ho41 hg41 hl41
 have hB41 : Bk w41 g [vb] := hB40.chg (Chg.of_grown hg41) (fun e => hne1 e.symm)
 refine W.nilCheck rfl rfl (W.fieldB (off := 0) (size := 1) (t := 22) (Fld.of (by kernel_rfl)) rfl rfl rfl ?_)
 refine W.store1 rfl rfl (own_one ho41) hB41 (by simp) (by kernel_rfl) ?_
 intro w42 hc42 hB42
 have hstep := (hP1.ext hX40).trans (Wr.step hP1.wr.low hB40 hne1 ho41 hg41 hl41 hc42 (by simpa using hB42))
 refine W.nil (At.blockNormal (At.thenCode (C.region ?_)))
 refine W.addI rfl rfl (by omega) rfl ?_
 refine W.move rfl rfl (W.nil ?_)
 refine At.thenRound (i + 1) (sc rfl (sc rfl (sc rfl (sc (look_eq rfl (by rw [show (i : Int) + 1 = ((i + 1 : Nat) : Int) by omega])) (Sub.nil))))) (show (i + 1) ≤ l.length ∧ WrP w g base (xs ++ putsL (l.take (i + 1))) _ from ?_) (show l.length - (i + 1) < l.length - i from ?_)
 refine ⟨by omega, ?_⟩
 rw [hpt, ← List.append_assoc]; exact hstep
 omega
 refine C.exit (At.thenExit (At.thenExit (At.blockSelf ?_)))
 refine At.end0 Tryz.results68 ?_
 refine ⟨rfl, ?_⟩
 rw [List.take_of_length_le (by omega)] at hP1
 exact hP1
theorem bytes_ok (g base : Nat) (ao : Option Addr) (c : Nat) (ys : List UInt8) (xs : List UInt8) (w : World) (hW : Wr w g base xs) (hl : Bs w ao c ys) (hlen : xs.length + ys.length ≤ 70368744177000) :
   Ct Tryz.prog 69 #[.pointer (some ⟨g, 0, none⟩), .slice ao ys.length c] w (fun v w' => v = .tuple #[] ∧ WrP w g base (xs ++ ys) w') := by
 refine Ct.enter [(0, .pointer (some ⟨g, 0, none⟩)), (1, .slice ao ys.length c)] Tryz.func69 rfl rfl rfl rfl ?_
 obtain ⟨vb, hB1, hO1, hne1⟩ := hW.own
 refine C.region (W.move rfl rfl (W.move rfl rfl (W.nilCheck rfl rfl (W.fieldB (off := 0) (size := 1) (t := 22) (Fld.of (by kernel_rfl)) rfl rfl rfl ?_))))
 refine W.loadB rfl Tryz.underlying22 rfl (by assumption) rfl rfl ?_
 refine W.move rfl rfl ?_
 refine W.appendB (ys := ys) E8 Tryz.underlying22 rfl rfl hO1 hl (by omega) (by have := hB1.lt; have := hW.low; omega) rfl ?_
 intro v41 w41 ho41 hg41 hl41
 have hB41 : Bk w41 g [vb] := hB1.chg (Chg.of_grown hg41) (fun e => hne1 e.symm)
 refine W.nilCheck rfl rfl (W.fieldB (off := 0) (size := 1) (t := 22) (Fld.of (by kernel_rfl)) rfl rfl rfl ?_)
 refine W.store1 rfl rfl (own_one ho41) hB41 (by simp) (by kernel_rfl) ?_
 intro w42 hc42 hB42
 refine W.nil ?_
 refine At.end0 Tryz.results69 ?_
 exact ⟨rfl, Wr.step hW.low hB1 hne1 ho41 hg41 hl41 hc42 (by simpa using hB42)⟩
end Go.Proofs.YthiijdbiikljpaaGreat.Cod
namespace Go.Proofs.YthiijdbiikljpaaGreat.KW
open Go Go.RowKit
set_option linter.unusedVariables false
set_option linter.unusedSimpArgs false
section
variable {P : Program} {N : Nat} {Q : Exit → Act → World → Prop} {l : Env} {w : World} {ops : Array Oper} {rest : List Oper} {d : Tmp} {ty : TypeId} {pos : String} {aft : Array Edge}
variable {x y : Operand} {T T' : TypeId}
theorem W.makeFunc {f : FuncId} {xs : List Operand} {caps : List Value} (hx : evs l xs = some caps) (hN : Nat.blt d N = true) (next : W P N ops Q rest ((d, .func (.func f) #[] caps.toArray) :: l) w) :
   W P N ops Q (⟨some d, .makeFunc (.func f) #[] xs.toArray, ty, pos, aft, none⟩ :: rest) l w :=
 W.op rfl rfl hN (fun a ha => by simp [execOp, Instr.makeFunc, ha.evs hx]) next
theorem W.callV {f : FuncId} {xs : List Operand} {fo : Operand} {tys : Array TypeId} {args caps : List Value} {R : Value → World → Prop} (hc : ∀ args w, (callFunc f args).run P w = .ok (.enter f args) w)
   (hf : ev l fo = some (.func (.func f) #[] caps.toArray)) (hx : evs l xs = some args) (H : Ct P f (args ++ caps).toArray w R) (hN : Nat.blt d N = true) (next : ∀ v w', R v w' → W P N ops Q rest ((d, v) :: l) w') :
   W P N ops Q (⟨some d, .call ⟨.value fo, xs.toArray, tys⟩, ty, pos, aft, none⟩ :: rest) l w :=
 ⟨fun a ha => wpList_plain rfl fun K hK => by
   unfold Oper.wp
   have e : (execOp a.eval ⟨some d, .call ⟨.value fo, xs.toArray, tys⟩, ty, pos, aft, none⟩).run P w = .ok (.enter f (args ++ caps).toArray) w := by
     have e1 : execOp a.eval ⟨some d, .call ⟨.value fo, xs.toArray, tys⟩, ty, pos, aft, none⟩ = (do let q ← Deferred.ofValue (a.eval fo) (xs.toArray.map a.eval); invoke q.target q.args) := rfl
     rw [e1, ha.ev hf]
     simp only [Deferred.ofValue, invoke, Sem.run_bind, Sem.run_pure, Result.andThen_ok]
     rw [hc]
     simp only [List.map_toArray, ha.evs hx, Array.empty_append]
     congr 2
     simp
   rw [e]
   simp only [Oper.upon]
   refine H.out.mono ?_
   rintro e w' ⟨v, rfl, hR⟩
   exact hK _ _ ((next v w' hR).out _ (ha.put (lt_of_blt hN) v))⟩
section
variable {fn : Func} {R : Value → World → Prop}
theorem run_results3 {P : Program} {w : World} {r s t : Tmp} (hr : fn.results = #[.tmp r, .tmp s, .tmp t]) (tmps : Array Value) {v u x : Value} (hv : tmps[r]? = some v) (hu : tmps[s]? = some u) (hx : tmps[t]? = some x) : (results fn tmps).run P w = .ok (.tuple #[v, u, x]) w := by
 simp only [results, hr]
 simp [Sem.run_bind, Result.andThen, hv, hu, hx]
theorem run_results_cell_tmp {P : Program} {w : World} {u p : Tmp} {t : TypeId} (hr : fn.results = #[.cell p t, .tmp u]) (tmps : Array Value) {ad : Addr} {v0 v : Value} (hu : tmps[u]? = some v0) (hp : tmps[p]? = some (.pointer (some ad))) (hl : (loadVar t ad).run P w = .ok v w) : (results fn tmps).run P w = .ok (.tuple #[v, v0]) w := by
 simp only [results, hr]
 simp [Sem.run_bind, Result.andThen, hu, hp, asAddr, hl]
theorem At.retCT {u p : Tmp} {t : TypeId} {ad : Addr} {v0 : Value} {cs : List Value} {dd : TypeDesc} (hr : fn.results = #[.cell p t, .tmp u]) (hu : look l u = some v0) (hp : look l p = some (.pointer (some ad))) (hc : Cells w ad cs) (hT : P.underlying t = some dd) (hd : dd.isRow = true) (hi : (P.info? t).map (·.size) = some cs.length) (hR : R (.tuple #[.agg cs.toArray, v0]) w) : At P N (Ret P fn R) .ret l w :=
 ⟨fun a ha => bodyPost_ret (run_results_cell_tmp hr a.tmps (ha.mem _ _ hu) (ha.mem _ _ hp) (run_loadRow w ad t cs dd hc hT hd hi)) ha.defers ⟨_, rfl, hR⟩⟩
theorem At.ret3 {r s t : Tmp} {v u x : Value} (hr : fn.results = #[.tmp r, .tmp s, .tmp t]) (hv : look l r = some v) (hu : look l s = some u) (hx : look l t = some x) (hR : R (.tuple #[v, u, x]) w) : At P N (Ret P fn R) .ret l w :=
 ⟨fun a ha => bodyPost_ret (run_results3 hr a.tmps (ha.mem _ _ hv) (ha.mem _ _ hu) (ha.mem _ _ hx)) ha.defers ⟨_, rfl, hR⟩⟩
end
end
structure FvNat (P : Program) (fv : Value) (L : List Nat) (w : World) : Prop where
  out : ∃ f caps, fv = .func (.func f) #[] caps ∧ (∀ args w, (callFunc f args).run P w = .ok (.enter f args) w) ∧ ∀ i (h : i < L.length), Ct P f ([Value.int .i64 (i : Int)] ++ caps.toList).toArray w (fun v w' => v = .int .i64 ((L[i]'h : Nat) : Int) ∧ w = w')
end Go.Proofs.YthiijdbiikljpaaGreat.KW
namespace Go.Proofs.YthiijdbiikljpaaGreat.Cod
open Go Go.RowKit Go.Proofs.YthiijdbiikljpaaGreat.KW Go.Proofs.YthiijdbiikljpaaGreat.Words Go.Proofs.YthiijdbiikljpaaGreat.Grp
set_option linter.unusedVariables false
set_option linter.unusedSimpArgs false
set_option maxRecDepth 100000
abbrev M64 : Nat := 18446744073709551616
def REnt : RdT Ent := fun A w cs p => ∃ v, cs = [u64V p.1, v] ∧ RByt A w [v] p.2 ∧ p.1 < M64
def RLet : RdT Let := fun A w cs p => ∃ v, cs = p.1.map byteV ++ [v] ∧ RByt A w [v] p.2 ∧ p.1.length = 32
def RNums : RdT (List Nat) := fun A w cs xs => ∃ a c, cs = [.slice a xs.length c] ∧ Us w a c xs ∧ (∀ ad, a = some ad → xs ≠ [] → ¬ A ad.block) ∧ ∀ x ∈ xs, x < M64
def RNote : RdT NoteD := fun A w cs n => cs = [u64V n.seq, u64V n.ack] ++ n.pay.map byteV ∧ NoteOk n
def RSub : RdT SubD := fun A w cs s => ∃ v, cs = s.user.map byteV ++ [u64V s.x, v, u64V s.c1, u64V s.s1, u64V s.c2, u64V s.s2] ∧ RByt A w [v] s.box ∧ SubOk s
def RBat : RdT BatD := fun A w cs x => ∃ vi vl, cs = [.int .i64 x.round, .int .i64 x.chain, vi, vl] ∧ RNums A w [vi] x.inner ∧ RSl 33 RLet A w [vl] x.lets ∧ BatOk x
theorem rEnt : RdOk REnt := by
 refine ⟨?_, ?_, ?_⟩
 rintro A w w' cs x ⟨v, rfl, h, hx⟩ g; exact ⟨v, rfl, rByt.chg h g, hx⟩
 rintro A B w cs x ⟨v, rfl, h, hx⟩ g; exact ⟨v, rfl, rByt.new h g, hx⟩
 rintro A w cs x ⟨v, rfl, h, hx⟩ u hu
 simp only [List.mem_cons, List.not_mem_nil, or_false] at hu
 rcases hu with rfl | rfl
 rfl
 exact rByt.one h _ (by simp)
theorem rLet : RdOk RLet := by
 refine ⟨?_, ?_, ?_⟩
 rintro A w w' cs x ⟨v, rfl, h, hx⟩ g; exact ⟨v, rfl, rByt.chg h g, hx⟩
 rintro A B w cs x ⟨v, rfl, h, hx⟩ g; exact ⟨v, rfl, rByt.new h g, hx⟩
 rintro A w cs x ⟨v, rfl, h, hx⟩ u hu
 rcases List.mem_append.1 hu with hu | hu
 exact bytes_oneCell _ u hu
 obtain rfl := List.mem_singleton.1 hu
 exact rByt.one h _ (by simp)
theorem rNums : RdOk RNums := by
 refine ⟨?_, ?_, ?_⟩
 rintro A w w' cs xs ⟨a, c, rfl, hs, hn, hx⟩ g
 exact ⟨a, c, rfl, hs.chg g (fun ad e hc => hn ad e (by rintro rfl; exact hc rfl)), hn, hx⟩
 rintro A B w cs xs ⟨a, c, rfl, hs, hn, hx⟩ h
 exact ⟨a, c, rfl, hs, fun ad e hx hB => hn ad e hx (h _ hB (hs.blk e (by simpa using hx))), hx⟩
 rintro A w cs x ⟨a, c, rfl, _⟩ u hu
 obtain rfl := List.mem_singleton.1 hu
 rfl
theorem rBat : RdOk RBat := by
 refine ⟨?_, ?_, ?_⟩
 rintro A w w' cs x ⟨vi, vl, rfl, h1, h2, hx⟩ g; exact ⟨vi, vl, rfl, rNums.chg h1 g, (rSl 33 rLet).chg h2 g, hx⟩
 rintro A B w cs x ⟨vi, vl, rfl, h1, h2, hx⟩ g; exact ⟨vi, vl, rfl, rNums.new h1 g, (rSl 33 rLet).new h2 g, hx⟩
 rintro A w cs x ⟨vi, vl, rfl, h1, h2, hx⟩ u hu
 simp only [List.mem_cons, List.not_mem_nil, or_false] at hu
 rcases hu with rfl | rfl | rfl | rfl
 rfl
 rfl
 exact rNums.one h1 _ (by simp)
 exact (rSl 33 rLet).one h2 _ (by simp)
theorem ELet : Elem Tryz.prog 58 33 56 (.agg (List.replicate 32 (byteV 0) ++ [Value.slice none 0 0]).toArray) := Elem.of (by kernel_rfl) rfl rfl
def NewB (w w' : World) (ao : Option Addr) (c : Nat) (xs : List UInt8) : Prop := Bs w' ao c xs ∧ ∀ ad, ao = some ad → xs ≠ [] → w.heap.size ≤ ad.block
theorem NewB.nil (w w' : World) : NewB w w' none 0 [] := ⟨Sl.none _ _, fun ad e => by cases e⟩
theorem Wr.fresh {w w' : World} {g base : Nat} {xs : List UInt8} (h : Wr w g base xs) (c : Ext w w') {k : Nat} (hk : w.heap.size ≤ k) : ¬ WS w' g k := fun hw => by
 have := (h.lt (h.ws_chg c (fun _ _ c => c) hw)).2
 omega
theorem WrP.old {w0 w w' : World} {g base : Nat} {xs ys : List UInt8} (h : WrP w g base ys w') (hw : Wr w g base xs) (hb : w0.heap.size ≤ base) (hX : Ext w0 w) : Ext w0 w' :=
 hX.news h.chg fun k hk => Or.inr (by have := (hw.lt hk).1; omega)
theorem WrP.bk {w w' : World} {g base q : Nat} {ys : List UInt8} {cs : List Value} (h : WrP w g base ys w') (hB : Bk w q cs) (hn : ¬ WS w g q) : Bk w' q cs := hB.chg h.chg hn
theorem WrP.chgB {w w' : World} {g base : Nat} {xs ys : List UInt8} (h : WrP w g base ys w') (hw : Wr w g base xs) : Chg (fun k => base ≤ k) w w' := h.chg.mono fun k hk => (hw.lt hk).1
theorem encLets_append (a b : List Let) : encLets (a ++ b) = encLets a ++ encLets b := by
 induction a with
 | nil => rfl
 | cons p r ih => obtain ⟨x, c⟩ := p; simp only [List.cons_append, encLets, ih, List.append_assoc]
theorem encLets_take {l : List Let} {i : Nat} (h : i < l.length) : encLets (l.take (i + 1)) = encLets (l.take i) ++ ((l[i]'h).1 ++ (l[i]'h).2) := by
 rw [List.take_succ_eq_append_getElem h, encLets_append]
 simp [encLets]
theorem encLets_le {l : List Let} {m : Nat} (h : ∀ p ∈ l, p.2.length ≤ m ∧ p.1.length = 32) : (encLets l).length ≤ l.length * (32 + m) := by
 induction l with
 | nil => simp [encLets]
 | cons p r ih =>
   obtain ⟨x, b⟩ := p
   have h1 := ih fun q hq => h q (by simp [hq])
   have h2 := h (x, b) (by simp)
   simp only [encLets, List.length_append, List.length_cons, Nat.succ_mul]
   simp only at h2
   omega
def lenE (most : Nat) (L : List Nat) : Nat := if most < L.length ∨ ∃ k ∈ L, 1048576 < k then 3 else 0
def lenF (most : Nat) (L : List Nat) : Nat := if lenE most L = 0 then L.headD 0 else 0
def lenA (most : Nat) (L : List Nat) : Bool := if lenE most L = 0 then L.all (· == L.headD 0) else false
theorem lengths_ok (most : Nat) (L : List Nat) (fv : Value) (w : World) (hf : FvNat Tryz.prog fv L w) (hm : most ≤ 1000000) (hL : L.length ≤ 9223372036854775807) (hLm : ∀ k ∈ L, k ≤ 9223372036854775807) :
   Ct Tryz.prog 66 #[.int .i64 (L.length : Int), .int .i64 (most : Int), fv] w (fun v w' => v = .tuple #[.int .i64 (lenF most L : Int), .bool (lenA most L), .int .i64 (lenE most L : Int)] ∧ w = w') := by
 obtain ⟨f, caps, rfl, hcall, hct⟩ := hf.out
 refine Ct.enter [(0, .int .i64 (L.length : Int)), (1, .int .i64 (most : Int)), (2, .func (.func f) #[] caps)] Tryz.func66 rfl rfl rfl rfl ?_
 refine C.seq (C.region (W.assign rfl rfl (W.assign rfl rfl (W.assign rfl rfl (W.nil (At.thenCode (C.seq (C.seq (C.region (W.move rfl rfl (W.move rfl rfl ?_)))))))))))
 refine W.gtrI rfl rfl rfl (W.nil (At.thenCode ?_))
 refine C.condD rfl (fun c15 => ?_) (fun c15 => ?_)
 refine C.seq (C.region (W.assign rfl rfl (W.assign rfl rfl (W.assign rfl rfl (W.nil (At.thenCode (C.ret (At.thenRet ?_))))))))
 refine At.ret3 Tryz.results66 rfl rfl rfl ?_
 have e : lenE most L = 3 := by unfold lenE; rw [if_pos (Or.inl (by omega))]
 exact ⟨by unfold lenF lenA; rw [e]; rfl, rfl⟩
 refine C.skip (At.thenCode (C.seq (C.region (W.assign rfl rfl (W.assign rfl rfl (W.nil (At.thenCode (C.seq (C.seq (C.region (W.move rfl rfl ?_)))))))))))
 refine W.move rfl rfl (W.nil (At.thenCode (C.block ?_)))
 refine C.loop (X := Nat × Nat × Bool) (fun x_ => [(0, .int .i64 (L.length : Int)), (1, .int .i64 (most : Int)), (2, .func (.func f) #[] caps), (9, .int .i64 (x_.2.1 : Int)), (10, .bool x_.2.2), (16, .int .i64 (L.length : Int)), (17, .int .i64 (x_.1 : Int))]) (fun x_ w1 => w = w1 ∧ x_.1 ≤ L.length ∧ x_.2.1 = (if x_.1 = 0 then 0 else L.headD 0) ∧ x_.2.2 = (L.take x_.1).all (· == L.headD 0) ∧ (∀ k ∈ L.take x_.1, k ≤ 1048576)) (fun x_ => L.length - x_.1) (0, 0, true) (sc rfl (sc rfl (sc rfl (sc rfl (sc rfl (sc rfl (sc rfl (Sub.nil)))))))) ?start1 ?_
 case start1 =>
   show w = _ ∧ (0) ≤ L.length ∧ (0) = (if (0) = 0 then 0 else L.headD 0) ∧ (true) = (L.take (0)).all (· == L.headD 0) ∧ (∀ k ∈ L.take (0), k ≤ 1048576)
   exact ⟨rfl, by omega, by simp, by simp, by simp⟩
 rintro ⟨i, q, a⟩ w1 hI_
 replace hI_ : w = w1 ∧ i ≤ L.length ∧ q = (if i = 0 then 0 else L.headD 0) ∧ a = (L.take i).all (· == L.headD 0) ∧ (∀ k ∈ L.take i, k ≤ 1048576) := hI_
 obtain ⟨rfl, hi, hq, ha, hk⟩ := hI_
 refine C.weaken (l' := [(0, .int .i64 (L.length : Int)), (1, .int .i64 (most : Int)), (2, .func (.func f) #[] caps), (9, .int .i64 (q : Int)), (10, .bool a), (16, .int .i64 (L.length : Int)), (17, .int .i64 (i : Int))]) (sc rfl (sc rfl (sc rfl (sc rfl (sc rfl (sc rfl (sc rfl (Sub.nil)))))))) ?_
 refine C.seq (C.region (W.lssI rfl rfl rfl (W.nil (At.thenCode (C.seq ?_)))))
 refine C.condD rfl (fun c18 => ?_) (fun c18 => ?_)
 have hlt : i < L.length := by omega
 refine C.skip (At.thenCode (C.seq (C.block (C.seq (C.region (W.move rfl rfl (W.assign rfl rfl (W.nil (At.thenCode (C.seq (C.region ?_)))))))))))
 refine W.move rfl rfl (W.move rfl rfl ?_)
 refine W.callV (caps := caps.toList) hcall (look_eq rfl (by simp)) rfl (hct i hlt) rfl ?_
 rintro v22 w22 ⟨rfl, rfl⟩
 refine W.assign rfl rfl (W.nil (At.thenCode (C.seq (C.seq (C.region (W.move rfl rfl (W.gtrI rfl rfl rfl (W.nil (At.thenCode ?_)))))))))
 refine C.condD rfl (fun c24 => ?_) (fun c24 => ?_)
 refine C.seq (C.region (W.assign rfl rfl (W.assign rfl rfl (W.assign rfl rfl (W.nil (At.thenCode (C.ret (At.thenRet (At.blockRet (At.thenRet (At.thenRet ?_)))))))))))
 refine At.blockRet (At.thenRet ?_)
 refine At.ret3 Tryz.results66 rfl rfl rfl ?_
 have e : lenE most L = 3 := by unfold lenE; rw [if_pos (Or.inr ⟨L[i], List.getElem_mem hlt, by omega⟩)]
 exact ⟨by unfold lenF lenA; rw [e]; rfl, rfl⟩
 have hki : L[i] ≤ 1048576 := by omega
 have hts := List.take_succ_eq_append_getElem hlt
 have hk' : ∀ k ∈ L.take (i + 1), k ≤ 1048576 := by
   intro k hkk
   rw [hts] at hkk
   rcases List.mem_append.1 hkk with h | h
   exact hk k h
   obtain rfl := List.mem_singleton.1 h; exact hki
 have hall : (L.take (i + 1)).all (· == L.headD 0) = (a && (L[i] == L.headD 0)) := by rw [hts, List.all_append, ← ha]; simp
 refine C.skip (At.thenCode (C.seq (C.seq (C.region (W.move rfl rfl (W.eqlI rfl rfl rfl (W.nil (At.thenCode ?_))))))))
 refine C.condD rfl (fun c26 => ?_) (fun c26 => ?_)
 have hi0 : i = 0 := by omega
 have hh : L[i] = L.headD 0 := by
   subst hi0
   cases L with
   | nil => simp at hlt
   | cons x r => rfl
 have ha1 : a = true := by rw [ha, hi0]; rfl
 refine C.region (W.move rfl rfl (W.assign rfl rfl (W.nil (At.thenCode (C.region (W.move rfl rfl (W.move rfl rfl ?_)))))))
 first | refine W.splitD (fun g29 => ?_) (fun g29 => ?_) | refine W.splitB (fun g29 => ?_) (fun g29 => ?_)
 refine W.wants rfl rfl rfl rfl (W.move rfl rfl (W.wants rfl rfl rfl rfl (W.move rfl rfl (W.wants rfl rfl rfl rfl (W.eqlI rfl rfl rfl (W.pickT rfl rfl rfl (W.assign rfl rfl (W.nil (At.blockNormal (At.thenCode (C.region ?_)))))))))))
 refine W.addI rfl rfl (by omega) rfl ?_
 refine W.move rfl rfl (W.nil ?_)
 refine At.thenRound (i + 1, L.headD 0, (L.take (i + 1)).all (· == L.headD 0)) (sc rfl (sc rfl (sc rfl (sc (look_eq rfl (iV (congrArg (fun n : Nat => (n : Int)) hh))) (sc (look_eq rfl (by rw [hall, ha1, Bool.true_and]; congr 1; rw [Bool.eq_iff_iff]; simp [hh])) (sc rfl (sc (look_eq rfl (iV (by omega))) (Sub.nil)))))))) (show w = _ ∧ (i + 1) ≤ L.length ∧ (L.headD 0) = (if (i + 1) = 0 then 0 else L.headD 0) ∧ ((L.take (i + 1)).all (· == L.headD 0)) = (L.take (i + 1)).all (· == L.headD 0) ∧ (∀ k ∈ L.take (i + 1), k ≤ 1048576) from ?_) (show L.length - (i + 1) < L.length - i from ?_)
 exact ⟨rfl, by omega, by simp, rfl, hk'⟩
 omega
 refine W.skips rfl rfl rfl rfl rfl rfl (W.skips rfl rfl rfl rfl rfl rfl (W.skips rfl rfl rfl rfl rfl rfl (W.pickF rfl rfl rfl (W.assign rfl rfl (W.nil (At.blockNormal (At.thenCode (C.region ?_))))))))
 refine W.addI rfl rfl (by omega) rfl ?_
 refine W.move rfl rfl (W.nil ?_)
 refine At.thenRound (i + 1, L.headD 0, (L.take (i + 1)).all (· == L.headD 0)) (sc rfl (sc rfl (sc rfl (sc (look_eq rfl (iV (congrArg (fun n : Nat => (n : Int)) hh))) (sc (look_eq rfl (by exfalso; simp_all)) (sc rfl (sc (look_eq rfl (iV (by omega))) (Sub.nil)))))))) (show w = _ ∧ (i + 1) ≤ L.length ∧ (L.headD 0) = (if (i + 1) = 0 then 0 else L.headD 0) ∧ ((L.take (i + 1)).all (· == L.headD 0)) = (L.take (i + 1)).all (· == L.headD 0) ∧ (∀ k ∈ L.take (i + 1), k ≤ 1048576) from ?_) (show L.length - (i + 1) < L.length - i from ?_)
 exact ⟨rfl, by omega, by simp, rfl, hk'⟩
 omega
 have hq' : q = L.headD 0 := by rw [hq, if_neg (by omega)]
 refine C.skip (At.thenCode (C.region (W.move rfl rfl (W.move rfl rfl ?_))))
 first | refine W.splitD (fun g29 => ?_) (fun g29 => ?_) | refine W.splitB (fun g29 => ?_) (fun g29 => ?_)
 refine W.wants rfl rfl rfl rfl (W.move rfl rfl (W.wants rfl rfl rfl rfl (W.move rfl rfl (W.wants rfl rfl rfl rfl (W.eqlI rfl rfl rfl (W.pickT rfl rfl rfl (W.assign rfl rfl (W.nil (At.blockNormal (At.thenCode (C.region ?_)))))))))))
 refine W.addI rfl rfl (by omega) rfl ?_
 refine W.move rfl rfl (W.nil ?_)
 refine At.thenRound (i + 1, L.headD 0, (L.take (i + 1)).all (· == L.headD 0)) (sc rfl (sc rfl (sc rfl (sc (look_eq rfl (iV (congrArg (fun n : Nat => (n : Int)) hq'))) (sc (look_eq rfl (by rw [hall, g29, Bool.true_and]; congr 1; rw [Bool.eq_iff_iff, hq']; simp; omega)) (sc rfl (sc (look_eq rfl (iV (by omega))) (Sub.nil)))))))) (show w = _ ∧ (i + 1) ≤ L.length ∧ (L.headD 0) = (if (i + 1) = 0 then 0 else L.headD 0) ∧ ((L.take (i + 1)).all (· == L.headD 0)) = (L.take (i + 1)).all (· == L.headD 0) ∧ (∀ k ∈ L.take (i + 1), k ≤ 1048576) from ?_) (show L.length - (i + 1) < L.length - i from ?_)
 exact ⟨rfl, by omega, by simp, rfl, hk'⟩
 omega
 refine W.skips rfl rfl rfl rfl rfl rfl (W.skips rfl rfl rfl rfl rfl rfl (W.skips rfl rfl rfl rfl rfl rfl (W.pickF rfl rfl rfl (W.assign rfl rfl (W.nil (At.blockNormal (At.thenCode (C.region ?_))))))))
 refine W.addI rfl rfl (by omega) rfl ?_
 refine W.move rfl rfl (W.nil ?_)
 refine At.thenRound (i + 1, L.headD 0, (L.take (i + 1)).all (· == L.headD 0)) (sc rfl (sc rfl (sc rfl (sc (look_eq rfl (iV (congrArg (fun n : Nat => (n : Int)) hq'))) (sc (look_eq rfl (by rw [hall, g29]; rfl)) (sc rfl (sc (look_eq rfl (iV (by omega))) (Sub.nil)))))))) (show w = _ ∧ (i + 1) ≤ L.length ∧ (L.headD 0) = (if (i + 1) = 0 then 0 else L.headD 0) ∧ ((L.take (i + 1)).all (· == L.headD 0)) = (L.take (i + 1)).all (· == L.headD 0) ∧ (∀ k ∈ L.take (i + 1), k ≤ 1048576) from ?_) (show L.length - (i + 1) < L.length - i from ?_)
 exact ⟨rfl, by omega, by simp, rfl, hk'⟩
 omega
 refine C.exit (At.thenExit (At.thenExit (At.blockSelf (At.thenCode (C.seq (C.region (W.move rfl rfl (W.move rfl rfl (W.assign rfl rfl (W.assign rfl rfl (W.assign rfl rfl ?_)))))))))))
 refine W.nil (At.thenCode (C.ret ?_))
 refine At.ret3 Tryz.results66 rfl rfl rfl ?_
 obtain rfl : i = L.length := by omega
 rw [List.take_length] at ha hk
 have e : lenE most L = 0 := by
   unfold lenE
   rw [if_neg]
   rintro (h | ⟨k, h1, h2⟩)
   omega
   have := hk k h1; omega
 have hqf : q = L.headD 0 := by
   rw [hq]; split
   rename_i h; rw [List.eq_nil_of_length_eq_zero h]; rfl
   rfl
 refine ⟨?_, rfl⟩
 unfold lenF lenA
 rw [e, if_pos rfl, if_pos rfl, hqf, ← ha]
 rfl
theorem Els.get {α : Type} {R : RdT α} {A : Nat → Prop} {w : World} {sz c : Nat} {a : Option Addr} {xs : List α} (h : Els A w sz R a c xs) {i : Nat} (hi : i < xs.length) : ∃ cs, R A w cs (xs[i]'hi) := by
 obtain ⟨es, _, _, he⟩ := h
 exact ⟨_, he i hi⟩
def noteC (n : NoteD) : List Value := [u64V n.seq, u64V n.ack] ++ n.pay.map byteV
theorem Bk.bs {w : World} {g o : Nat} {cs : List Value} {xs : List UInt8} (h : Bk w g cs) (e : (cs.drop o).take xs.length = xs.map byteV) : Bs w (some ⟨g, o, none⟩) xs.length xs := by
 refine ⟨Nat.le_refl _, by simp, (fun e => by cases e), fun ad ea => ?_⟩
 obtain rfl := Option.some.inj ea
 rw [← e]
 exact Bk.cellsN h
theorem wr_end {w w' : World} {g base : Nat} {xs : List UInt8} (h : Wr w' g base xs) (hb : w.heap.size ≤ base) : ∃ a c, Bk w' g [.slice a xs.length c] ∧ NewB w w' a c xs := by
 obtain ⟨v, h1, h2, h3⟩ := h.own
 obtain ⟨a, c, rfl, hs, hbb⟩ := ownsRow_form h2
 exact ⟨a, c, h1, hs, fun ad e _ => Nat.le_trans hb (hbb ad e)⟩
def subC (s : SubD) (v : Value) : List Value := s.user.map byteV ++ [u64V s.x, v, u64V s.c1, u64V s.s1, u64V s.c2, u64V s.s2]
end Go.Proofs.YthiijdbiikljpaaGreat.Cod
