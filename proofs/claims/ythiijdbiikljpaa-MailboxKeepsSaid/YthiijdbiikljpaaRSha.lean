/- The reference's Sha: its walks. -/
import Derived.Test.YthiijdbiikljpaaSha
namespace Go.Proofs.Ythiijdbiikljpaa.RSha
open Go Go.RowKit Go.Proofs.Ythiijdbiikljpaa.KW Go.Proofs.Ythiijdbiikljpaa.Words Go.Proofs.Ythiijdbiikljpaa.Sha
set_option linter.unusedVariables false
set_option linter.unusedSimpArgs false
set_option maxRecDepth 100000

def Lt32 (l : List Nat) : Prop := ∀ x ∈ l, x < 4294967296
theorem Lt32.get {l : List Nat} (h : Lt32 l) (j : Nat) : l.getD j 0 < 4294967296 := by
  simp only [List.getD]
  cases hj : l[j]? with
  | none => decide
  | some x => exact h x (List.mem_of_getElem? hj)
theorem addM_lt32 (a b : Nat) : addM 4294967296 a b < 4294967296 := Nat.mod_lt _ (by decide)
theorem Lt32.snoc {l : List Nat} (h : Lt32 l) {x : Nat} (hx : x < 4294967296) : Lt32 (l ++ [x]) := by
  intro y hy
  rcases List.mem_append.1 hy with hy | hy
  · exact h y hy
  · simp at hy; subst hy; exact hx
theorem sch_lt {ws : List Nat} (h : Lt32 ws) : ∀ i, Lt32 (sch ws i) := by
  intro i
  induction i with
  | zero => intro x hx; cases hx
  | succ i ih =>
    rw [sch]
    refine ih.snoc ?_
    split
    · exact h.get i
    · exact addM_lt32 _ _
theorem stepL_lt {l : List Nat} (hl : l.length = 8) (h : Lt32 l) (k : Nat) : Lt32 (stepL l k) := by
  obtain ⟨a, b, c, d, e, f, g, i, rfl⟩ := eight hl
  intro x hx
  simp only [stepL, List.mem_cons, List.not_mem_nil, or_false] at hx
  have hm : ∀ y ∈ [a, b, c, d, e, f, g, i], y < 4294967296 := h
  rcases hx with rfl | rfl | rfl | rfl | rfl | rfl | rfl | rfl
  · exact addM_lt32 _ _
  · exact hm _ (by simp)
  · exact hm _ (by simp)
  · exact hm _ (by simp)
  · exact addM_lt32 _ _
  · exact hm _ (by simp)
  · exact hm _ (by simp)
  · exact hm _ (by simp)
theorem rnd_lt {hs : List Nat} (hl : hs.length = 8) (h : Lt32 hs) (ks ws : List Nat) : ∀ i, Lt32 (rnd hs ks ws i) := by
  intro i
  induction i with
  | zero => exact h
  | succ i ih => exact stepL_lt (rnd_length hl ks ws i) ih _
theorem addL_lt : ∀ (x y : List Nat), Lt32 (addL x y) := by
  intro x
  induction x with
  | nil => intro y z hz; cases y <;> cases hz
  | cons a r ih =>
    intro y
    cases y with
    | nil => intro z hz; cases hz
    | cons b q =>
      intro z hz
      rcases List.mem_cons.1 hz with rfl | hz
      · exact addM_lt32 _ _
      · exact ih q z hz
theorem blkH_lt (all : List UInt8) : ∀ j, Lt32 (blkH all j) := by
  intro j
  cases j with
  | zero => intro x hx; change x ∈ shaH at hx; revert x; decide
  | succ j => exact addL_lt _ _
theorem wordsOf_lt (b : List UInt8) : Lt32 (wordsOf b) := by
  intro x hx
  obtain ⟨j, _, rfl⟩ := List.mem_map.1 hx
  exact getV_lt _ _ 4
theorem sch_take {ws : List Nat} (h : ws.length = 16) : ∀ i, i ≤ 16 → sch ws i = ws.take i := by
  intro i
  induction i with
  | zero => intro _; simp [sch]
  | succ i ih =>
    intro hi
    rw [sch_low ws (by omega), ih (by omega), List.take_succ_eq_append_getElem (by omega)]
    simp [List.getD, show i < ws.length by omega]
theorem addM_assoc (a b c : Nat) : addM 4294967296 (addM 4294967296 a b) c = addM 4294967296 a (addM 4294967296 b c) := by
  unfold addM; omega
theorem addM_swap (p b x y : Nat) : addM 4294967296 (addM 4294967296 (addM 4294967296 p b) x) y = addM 4294967296 (addM 4294967296 (addM 4294967296 p x) b) y := by
  unfold addM; omega
/-- Shifted: place k and those behind hold what stood one ahead. -/
def shf : List Nat → Nat → List Nat
  | [a, b, c, d, e, f, g, h], 7 => [a, b, c, d, e, f, g, h]
  | [a, b, c, d, e, f, g, h], 6 => [a, b, c, d, e, f, g, g]
  | [a, b, c, d, e, f, g, h], 5 => [a, b, c, d, e, f, f, g]
  | [a, b, c, d, e, f, g, h], 4 => [a, b, c, d, e, e, f, g]
  | [a, b, c, d, e, f, g, h], 3 => [a, b, c, d, d, e, f, g]
  | [a, b, c, d, e, f, g, h], 2 => [a, b, c, c, d, e, f, g]
  | [a, b, c, d, e, f, g, h], 1 => [a, b, b, c, d, e, f, g]
  | [a, b, c, d, e, f, g, h], _ => [a, a, b, c, d, e, f, g]
  | l, _ => l
theorem shf_step (a b c d e f g h : Nat) {k : Nat} (h0 : 0 < k) (h7 : k ≤ 7) : ∃ v, ((shf [a, b, c, d, e, f, g, h] k).map u32V)[k - 1]? = some (u32V v) ∧ ((shf [a, b, c, d, e, f, g, h] k).map u32V).set k (u32V v) = (shf [a, b, c, d, e, f, g, h] (k - 1)).map u32V := by
  rcases (show k = 1 ∨ k = 2 ∨ k = 3 ∨ k = 4 ∨ k = 5 ∨ k = 6 ∨ k = 7 by omega) with rfl | rfl | rfl | rfl | rfl | rfl | rfl <;> exact ⟨_, rfl, rfl⟩
theorem shf_length (a b c d e f g h : Nat) (k : Nat) (h7 : k ≤ 7) : (shf [a, b, c, d, e, f, g, h] k).length = 8 := by
  rcases (show k = 0 ∨ k = 1 ∨ k = 2 ∨ k = 3 ∨ k = 4 ∨ k = 5 ∨ k = 6 ∨ k = 7 by omega) with rfl | rfl | rfl | rfl | rfl | rfl | rfl | rfl <;> rfl




theorem getV_take {xs : List UInt8} {i : Nat} (h : 4 * i + 4 ≤ 64) (hl : 64 ≤ xs.length) : getV xs ((4 * i : Nat) : Int) 4 = getV (xs.take 64) ((4 * i : Nat) : Int) 4 := by
  have e1 : getE xs ((4 * i : Nat) : Int) 4 = 0 := getE_0.2 (by omega)
  have e2 : getE (xs.take 64) ((4 * i : Nat) : Int) 4 = 0 := getE_0.2 (by rw [List.length_take]; omega)
  rw [getV, if_pos e1, getV, if_pos e2, Int.toNat_natCast, List.drop_take, List.take_take, Nat.min_eq_left (by omega)]
def part32 (l : List UInt8) : List Value := l.map byteV ++ List.replicate (32 - l.length) (byteV 0)
theorem part32_length {l : List UInt8} (h : l.length ≤ 32) : (part32 l).length = 32 := by simp [part32]; omega
theorem part32_set {l : List UInt8} (h : l.length < 32) (v : UInt8) : (part32 l).set l.length (byteV v) = part32 (l ++ [v]) := by
  unfold part32
  rw [List.set_append_right _ _ (by simp), List.length_map, Nat.sub_self, List.map_append, List.append_assoc]
  congr 1
  rw [show 32 - l.length = (32 - (l ++ [v]).length) + 1 by simp; omega, List.replicate_succ]
  rfl
theorem part32_full {l : List UInt8} (h : l.length = 32) : part32 l = l.map byteV := by simp [part32, h]


/-! ### Parts -/
theorem EB : Elem Try.prog 51 1 24 (.slice none 0 0) := Elem.of (by kernel_rfl) rfl rfl
def partsV : List (List UInt8) → List UInt8
  | [] => []
  | x :: r => be64 x.length ++ x ++ partsV r
theorem partsV_append (a b : List (List UInt8)) : partsV (a ++ b) = partsV a ++ partsV b := by
  induction a with
  | nil => rfl
  | cons x r ih => simp only [List.cons_append, partsV, ih, List.append_assoc]
theorem partsV_take {ls : List (List UInt8)} {i : Nat} (h : i < ls.length) : partsV (ls.take (i + 1)) = partsV (ls.take i) ++ be64 (ls[i]'h).length ++ ls[i]'h := by
  rw [List.take_succ_eq_append_getElem h, partsV_append]
  simp [partsV]
theorem partsV_le (ls : List (List UInt8)) (i : Nat) : (partsV (ls.take i)).length ≤ (partsV ls).length := by
  have e : partsV ls = partsV (ls.take i) ++ partsV (ls.drop i) := by rw [← partsV_append, List.take_append_drop]
  rw [e, List.length_append]; omega

end Go.Proofs.Ythiijdbiikljpaa.RSha
