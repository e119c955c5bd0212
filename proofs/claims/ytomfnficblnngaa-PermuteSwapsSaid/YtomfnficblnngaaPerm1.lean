/- Orders of lists: what is drawn, what is right, what is back. No program here but the streams' numbers. -/
import Derived.Test.YtomfnficblnngaaBeacon2
import Derived.Test.YtomfnficblnngaaInts
namespace Go.Proofs.Ytomfnficblnngaa.Perm
open Go Go.RowKit Go.Proofs.Ytomfnficblnngaa.KW Go.Proofs.Ytomfnficblnngaa.Words Go.Proofs.Ytomfnficblnngaa.Beacon Go.Proofs.Ytomfnficblnngaa.Ints
set_option linter.unusedVariables false
set_option linter.unusedSimpArgs false
set_option maxRecDepth 100000

theorem getD_set (L : List Int) (i j : Nat) (x : Int) (hi : i < L.length) : (L.set i x).getD j 0 = if j = i then x else L.getD j 0 := by
  simp only [List.getD, List.getElem?_set]
  by_cases h : i = j
  · subst h; simp [hi]
  · rw [if_neg (fun e : j = i => h e.symm), if_neg h]
theorem getDb_set (M : List Bool) (i j : Nat) (hi : i < M.length) : (M.set i true).getD j false = if j = i then true else M.getD j false := by
  simp only [List.getD, List.getElem?_set]
  by_cases h : i = j
  · subst h; simp [hi]
  · rw [if_neg (fun e : j = i => h e.symm), if_neg h]
theorem getD_ext {L M : List Int} (hl : L.length = M.length) (h : ∀ i, i < L.length → L.getD i 0 = M.getD i 0) : L = M := by
  apply List.ext_getElem hl
  intro i h1 h2
  have := h i h1
  rwa [getD_of h1, getD_of h2] at this

def idP (n i : Nat) : List Int := (List.range n).map fun j => if j < i then (j : Int) else 0
theorem idP_length (n i : Nat) : (idP n i).length = n := by simp [idP]
theorem idP_get {n i j : Nat} (h : j < n) : (idP n i).getD j 0 = if j < i then (j : Int) else 0 := by simp [idP, List.getD, h]
theorem idP_zero (n : Nat) : idP n 0 = List.replicate n 0 := by
  apply getD_ext (by simp [idP])
  intro i hi
  rw [idP_length] at hi
  rw [idP_get hi]
  simp [List.getD, hi]
theorem idP_set {n i : Nat} (h : i < n) : (idP n i).set i (i : Int) = idP n (i + 1) := by
  apply getD_ext (by simp [idP])
  intro j hj
  rw [List.length_set, idP_length] at hj
  rw [getD_set _ _ _ _ (by rw [idP_length]; exact h), idP_get hj, idP_get hj]
  split <;> split <;> (try split) <;> omega
def idL (n : Nat) : List Int := idP n n
theorem idL_length (n : Nat) : (idL n).length = n := idP_length n n
theorem idL_get {n j : Nat} (h : j < n) : (idL n).getD j 0 = (j : Int) := by rw [idL, idP_get h, if_pos h]
theorem idL_succ (n : Nat) : idL n ++ [(n : Int)] = idL (n + 1) := by
  apply getD_ext (by simp [idL_length])
  intro j hj
  rw [List.length_append, idL_length, List.length_singleton] at hj
  rw [idL_get hj]
  by_cases h : j < n
  · have : (idL n ++ [(n : Int)]).getD j 0 = (idL n).getD j 0 := by simp [List.getD, List.getElem?_append, idL_length, h]
    rw [this, idL_get h]
  · obtain rfl : j = n := by omega
    simp [List.getD, List.getElem?_append, idL_length]

def swapL (L : List Int) (i j : Nat) : List Int := (L.set i (L.getD j 0)).set j (L.getD i 0)
theorem swapL_length (L : List Int) (i j : Nat) : (swapL L i j).length = L.length := by simp [swapL]
theorem swapL_get {L : List Int} {i j : Nat} (hi : i < L.length) (hj : j < L.length) (k : Nat) : (swapL L i j).getD k 0 = if k = j then L.getD i 0 else if k = i then L.getD j 0 else L.getD k 0 := by
  rw [swapL, getD_set _ _ _ _ (by rw [List.length_set]; exact hj), getD_set _ _ _ _ hi]

/-! ### what is right -/
def RtP (L : List Int) (m : Nat) : Prop := ∀ i, i < m → (0 ≤ L.getD i 0 ∧ L.getD i 0 < (L.length : Int)) ∧ ∀ j, j < i → L.getD j 0 ≠ L.getD i 0
instance (L : List Int) (m : Nat) : Decidable (RtP L m) := by unfold RtP; infer_instance
def Rt (L : List Int) : Prop := RtP L L.length
instance (L : List Int) : Decidable (Rt L) := by unfold Rt; infer_instance
theorem RtP_zero (L : List Int) : RtP L 0 := fun i h => by omega
theorem RtP_succ {L : List Int} {m : Nat} (h : RtP L m) (h1 : 0 ≤ L.getD m 0 ∧ L.getD m 0 < (L.length : Int)) (h2 : ∀ j, j < m → L.getD j 0 ≠ L.getD m 0) : RtP L (m + 1) := by
  intro i hi
  by_cases e : i = m
  · subst e; exact ⟨h1, h2⟩
  · exact h i (by omega)
theorem Rt.range {L : List Int} (h : Rt L) {i : Nat} (hi : i < L.length) : 0 ≤ L.getD i 0 ∧ L.getD i 0 < (L.length : Int) := (h i hi).1
theorem Rt.inj {L : List Int} (h : Rt L) {i j : Nat} (hi : i < L.length) (hj : j < L.length) (e : L.getD i 0 = L.getD j 0) : i = j := by
  rcases Nat.lt_trichotomy i j with hc | hc | hc
  · exact absurd e ((h j hj).2 i hc)
  · exact hc
  · exact absurd e.symm ((h i hi).2 j hc)
theorem Rt.of {L : List Int} (h1 : ∀ i, i < L.length → 0 ≤ L.getD i 0 ∧ L.getD i 0 < (L.length : Int)) (h2 : ∀ i j, i < L.length → j < L.length → L.getD i 0 = L.getD j 0 → i = j) : Rt L :=
  fun i hi => ⟨h1 i hi, fun j hj e => by have := h2 j i (by omega) hi e; omega⟩
theorem Rt_nil : Rt [] := fun i h => by simp at h
theorem idL_right (n : Nat) : Rt (idL n) := by
  refine Rt.of (fun i hi => ?_) (fun i j hi hj e => ?_)
  · rw [idL_length] at hi; rw [idL_get hi, idL_length]; omega
  · rw [idL_length] at hi hj; rw [idL_get hi, idL_get hj] at e; omega
theorem swapL_right {L : List Int} {i j : Nat} (h : Rt L) (hi : i < L.length) (hj : j < L.length) : Rt (swapL L i j) := by
  refine Rt.of (fun k hk => ?_) (fun k q hk hq e => ?_)
  · rw [swapL_length] at hk ⊢
    rw [swapL_get hi hj]
    split
    · exact h.range hi
    · split
      · exact h.range hj
      · exact h.range hk
  · rw [swapL_length] at hk hq
    rw [swapL_get hi hj, swapL_get hi hj] at e
    split at e <;> split at e
    all_goals (try split at e)
    all_goals (try split at e)
    all_goals first
      | omega
      | (have := h.inj hi hi e; omega)
      | (have := h.inj hi hj e; omega)
      | (have := h.inj hi hq e; omega)
      | (have := h.inj hj hi e; omega)
      | (have := h.inj hj hj e; omega)
      | (have := h.inj hj hq e; omega)
      | (have := h.inj hk hi e; omega)
      | (have := h.inj hk hj e; omega)
      | (have := h.inj hk hq e; omega)

/-! ### what is drawn -/
def shE (f : Nat → Nat) : Nat → Nat → Int
  | 0, _ => 0
  | k + 1, a => if nextE f (k + 2) a = 0 then shE f k (nextI f (k + 2) a) else nextE f (k + 2) a
def shL (f : Nat → Nat) : Nat → Nat → List Int → List Int
  | 0, _, L => L
  | k + 1, a, L => shL f k (nextI f (k + 2) a) (swapL L (k + 1) (nextX f (k + 2) a))
theorem shL_length (f : Nat → Nat) : ∀ k a L, (shL f k a L).length = L.length := by
  intro k
  induction k with
  | zero => intro a L; rfl
  | succ k ih => intro a L; rw [shL, ih, swapL_length]
theorem shL_right (f : Nat → Nat) : ∀ k a L, k < L.length → Rt L → shE f k a = 0 → Rt (shL f k a L) := by
  intro k
  induction k with
  | zero => intro a L _ h _; exact h
  | succ k ih =>
    intro a L hk h he
    rw [shE] at he
    split at he
    · rename_i h0
      have hx := nextX_lt h0
      exact ih _ _ (by rw [swapL_length]; omega) (swapL_right h hk (by omega)) he
    · rename_i h0; exact absurd he h0
theorem shE_cases (f : Nat → Nat) : ∀ k a, shE f k a = 0 ∨ shE f k a = 9 := by
  intro k
  induction k with
  | zero => intro a; exact .inl rfl
  | succ k ih =>
    intro a
    rw [shE]
    split
    · exact ih _
    · rename_i h
      rcases nextE_cases f (k + 2) a with h1 | h1 | h1
      · exact absurd h1 h
      · exfalso
        unfold nextE at h1
        rw [if_neg (by omega)] at h1
        split at h1 <;> cases h1
      · exact .inr h1
def ofE (f : Nat → Nat) (n : Int) : Int := if n < 0 ∨ 1000 < n then 1 else shE f (n.toNat - 1) 0
def ofL (f : Nat → Nat) (n : Int) : List Int := if ofE f n = 0 then shL f (n.toNat - 1) 0 (idL n.toNat) else []
theorem ofL_length {f : Nat → Nat} {n : Int} (h : ofE f n = 0) : (ofL f n).length = n.toNat := by unfold ofL; rw [if_pos h, shL_length, idL_length]
theorem ofL_right (f : Nat → Nat) (n : Int) : Rt (ofL f n) := by
  unfold ofL
  split
  · rename_i h
    have hn : ¬ (n < 0 ∨ 1000 < n) := fun hc => by unfold ofE at h; rw [if_pos hc] at h; cases h
    unfold ofE at h
    rw [if_neg hn] at h
    by_cases h0 : n.toNat = 0
    · rw [h0]; exact Rt_nil
    · exact shL_right f _ _ _ (by rw [idL_length]; omega) (idL_right _) h
  · exact Rt_nil
theorem ofL_le (f : Nat → Nat) (n : Int) : (ofL f n).length ≤ 1000 := by
  unfold ofL
  split
  · rename_i h
    have hn : ¬ (n < 0 ∨ 1000 < n) := fun hc => by unfold ofE at h; rw [if_pos hc] at h; cases h
    rw [shL_length, idL_length]; omega
  · exact Nat.zero_le _

/-! ### what is back -/
def invP (L : List Int) : Nat → List Int
  | 0 => List.replicate L.length 0
  | i + 1 => (invP L i).set (L.getD i 0).toNat (i : Int)
theorem invP_length (L : List Int) : ∀ i, (invP L i).length = L.length := by
  intro i
  induction i with
  | zero => simp [invP]
  | succ i ih => rw [invP, List.length_set, ih]
def invL (L : List Int) : List Int := invP L L.length
theorem invL_length (L : List Int) : (invL L).length = L.length := invP_length L _
theorem invP_get {L : List Int} (h : Rt L) : ∀ m, m ≤ L.length → ∀ i, i < m → (invP L m).getD (L.getD i 0).toNat 0 = (i : Int) := by
  intro m
  induction m with
  | zero => intro _ i hi; omega
  | succ m ih =>
    intro hm i hi
    have hr := h.range (show m < L.length by omega)
    rw [invP, getD_set _ _ _ _ (by rw [invP_length]; omega)]
    by_cases e : i = m
    · subst e; rw [if_pos rfl]
    · have hr2 := h.range (show i < L.length by omega)
      rw [if_neg (fun hc => e (h.inj (by omega) (by omega) (by omega)))]
      exact ih (by omega) i (by omega)
theorem invL_get {L : List Int} (h : Rt L) {i : Nat} (hi : i < L.length) : (invL L).getD (L.getD i 0).toNat 0 = (i : Int) := invP_get h _ (Nat.le_refl _) i hi
theorem surj : ∀ (n : Nat) (f : Nat → Nat), (∀ i, i < n → f i < n) → (∀ i j, i < n → j < i → f j ≠ f i) → ∀ x, x < n → ∃ i, i < n ∧ f i = x := by
  intro n
  induction n with
  | zero => intro f _ _ x hx; omega
  | succ n ih =>
    intro f hf hi x hx
    by_cases hm : f n = n
    · by_cases e : x = n
      · exact ⟨n, by omega, by omega⟩
      · obtain ⟨i, h1, h2⟩ := ih f (fun i h => by have := hf i (by omega); have := hi n i (by omega) h; omega) (fun i j h g => hi i j (by omega) g) x (by omega)
        exact ⟨i, by omega, h2⟩
    · have hmn : f n < n := by have := hf n (by omega); omega
      have hg := ih (fun i => if f i = n then f n else f i) (fun i h => by
        show (if f i = n then f n else f i) < n
        have := hf i (by omega)
        split <;> omega) (fun i j h g => by
        show (if f j = n then f n else f j) ≠ (if f i = n then f n else f i)
        have h1 := hi i j (by omega) g
        have h2 := hi n i (by omega) h
        have h3 := hi n j (by omega) (by omega)
        split <;> split <;> omega)
      have hg : ∀ x, x < n → ∃ i, i < n ∧ (if f i = n then f n else f i) = x := hg
      by_cases e : x = n
      · obtain ⟨i, h1, h2⟩ := hg (f n) hmn
        by_cases hc : f i = n
        · exact ⟨i, by omega, by omega⟩
        · rw [if_neg hc] at h2
          exact absurd h2 (hi n i (by omega) h1)
      · obtain ⟨i, h1, h2⟩ := hg x (by omega)
        by_cases hc : f i = n
        · rw [if_pos hc] at h2; exact ⟨n, by omega, h2⟩
        · rw [if_neg hc] at h2; exact ⟨i, by omega, h2⟩
theorem Rt.onto {L : List Int} (h : Rt L) {x : Nat} (hx : x < L.length) : ∃ i, i < L.length ∧ L.getD i 0 = (x : Int) := by
  obtain ⟨i, h1, h2⟩ := surj L.length (fun i => (L.getD i 0).toNat) (fun i hi => by have := h.range hi; show (L.getD i 0).toNat < _; omega) (fun i j hi hj e => by
    have e : (L.getD j 0).toNat = (L.getD i 0).toNat := e
    have h1 := h.range hi
    have h2 := h.range (show j < L.length by omega)
    have := h.inj (show j < L.length by omega) hi (by omega)
    omega) x hx
  have h2 : (L.getD i 0).toNat = x := h2
  have := h.range h1
  exact ⟨i, h1, by omega⟩
theorem invL_right {L : List Int} (h : Rt L) : Rt (invL L) := by
  refine Rt.of (fun x hx => ?_) (fun x y hx hy e => ?_)
  · rw [invL_length] at hx ⊢
    obtain ⟨i, h1, h2⟩ := h.onto hx
    have := invL_get h h1
    rw [h2, Int.toNat_natCast] at this
    rw [this]; omega
  · rw [invL_length] at hx hy
    obtain ⟨i, h1, h2⟩ := h.onto hx
    obtain ⟨j, h3, h4⟩ := h.onto hy
    have e1 := invL_get h h1
    have e2 := invL_get h h3
    rw [h2, Int.toNat_natCast] at e1
    rw [h4, Int.toNat_natCast] at e2
    rw [e1, e2] at e
    obtain rfl : i = j := by omega
    omega
theorem invL_back {L : List Int} (h : Rt L) : invL (invL L) = L := by
  refine getD_ext (by rw [invL_length, invL_length]) (fun i hi => ?_)
  rw [invL_length, invL_length] at hi
  have hr := h.range hi
  have h1 := invL_get h hi
  have h2 := invL_get (invL_right h) (i := (L.getD i 0).toNat) (by rw [invL_length]; omega)
  rw [h1, Int.toNat_natCast] at h2
  rw [h2]; omega
theorem get_invL {L : List Int} (h : Rt L) {x : Nat} (hx : x < L.length) : L.getD ((invL L).getD x 0).toNat 0 = (x : Int) := by
  obtain ⟨i, h1, h2⟩ := h.onto hx
  have := invL_get h h1
  rw [h2, Int.toNat_natCast] at this
  rw [this, Int.toNat_natCast, h2]
def invR (L : List Int) : List Int := if Rt L then invL L else []
/-- Which numbers were met. -/
def metP (L : List Int) : Nat → List Bool
  | 0 => List.replicate L.length false
  | i + 1 => (metP L i).set (L.getD i 0).toNat true
theorem metP_length (L : List Int) : ∀ i, (metP L i).length = L.length := by
  intro i
  induction i with
  | zero => simp [metP]
  | succ i ih => rw [metP, List.length_set, ih]
theorem metP_get {L : List Int} (x : Nat) : ∀ m, RtP L m → x < L.length → ((metP L m).getD x false = true ↔ ∃ j, j < m ∧ L.getD j 0 = (x : Int)) := by
  intro m
  induction m with
  | zero => intro _ hx; simp [metP, List.getD, hx]
  | succ m ih =>
    intro h hx
    have ih := ih (fun i hi => h i (by omega)) hx
    have hr := (h m (by omega)).1
    rw [metP]
    by_cases e : (L.getD m 0).toNat = x
    · have : ((metP L m).set (L.getD m 0).toNat true).getD x false = true := by
        rw [getDb_set _ _ _ (by rw [metP_length]; omega), if_pos e.symm]
      simp only [this, true_iff]
      exact ⟨m, by omega, by omega⟩
    · have : ((metP L m).set (L.getD m 0).toNat true).getD x false = (metP L m).getD x false := by
        rw [getDb_set _ _ _ (by rw [metP_length]; omega), if_neg (fun c => e c.symm)]
      rw [this, ih]
      constructor
      · rintro ⟨j, h1, h2⟩; exact ⟨j, by omega, h2⟩
      · rintro ⟨j, h1, h2⟩
        by_cases ej : j = m
        · subst ej; omega
        · exact ⟨j, by omega, h2⟩
theorem not_Rt {L : List Int} {m : Nat} (hm : m < L.length) (h : ¬ ((0 ≤ L.getD m 0 ∧ L.getD m 0 < (L.length : Int)) ∧ ∀ j, j < m → L.getD j 0 ≠ L.getD m 0)) : ¬ Rt L := fun c => h (c m hm)
end Go.Proofs.Ytomfnficblnngaa.Perm
