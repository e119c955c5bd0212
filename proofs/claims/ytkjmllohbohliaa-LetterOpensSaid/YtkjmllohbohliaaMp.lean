/- Plain law: 37 has the order P - 1 modulo P = 2^61 - 1, so every number that is not 0 is a power of it, and its power P - 1 is 1. -/
import Derived.Test.YtkjmllohbohliaaModp
namespace Go.Proofs.Ytkjmllohbohliaa.Modp
set_option linter.unusedVariables false

def pw : Nat → Nat → Nat → Nat
  | 0, _, _ => 1
  | n + 1, a, e => if e % 2 = 1 then a * pw n (a * a % 2305843009213693951) (e / 2) % 2305843009213693951 else pw n (a * a % 2305843009213693951) (e / 2)
theorem pw_eq : ∀ (n a e : Nat), e < 2 ^ n → pw n a e = powP a e := by
  intro n
  induction n with
  | zero => intro a e h; obtain rfl : e = 0 := by simpa using h
            rw [powP_zero]; rfl
  | succ n ih =>
    intro a e h
    have h2 : e / 2 < 2 ^ n := by rw [Nat.pow_succ] at h; omega
    have hr := pow_round 1 a e (powP a e) (by rw [Nat.one_mul, Nat.mod_eq_of_lt (powP_lt _ _)])
    unfold pw
    rw [ih _ _ h2]
    by_cases hb : e % 2 = 1
    · rw [if_pos hb, ← hr.1 hb, Nat.one_mul, Nat.mod_mul_mod]
    · rw [if_neg hb, ← hr.2 hb, Nat.one_mul, Nat.mod_eq_of_lt (powP_lt _ _)]

theorem full : powP 37 2305843009213693950 = 1 := by rw [← pw_eq 61 _ _ (by decide)]; decide +kernel
theorem parts : ∀ q ∈ [2, 3, 5, 7, 11, 13, 31, 41, 61, 151, 331, 1321], powP 37 (2305843009213693950 / q) ≠ 1 := by
  intro q hq
  rw [← pw_eq 61 _ _ (Nat.lt_of_le_of_lt (Nat.div_le_self _ _) (by decide))]
  revert q
  decide +kernel
theorem factors : 2305843009213693950 = 2 * (3 * (3 * (5 * (5 * (7 * (11 * (13 * (31 * (41 * (61 * (151 * (331 * 1321)))))))))))) := by decide
theorem small : ∀ p ∈ [2, 3, 5, 7, 11, 13, 31, 41, 61, 151, 331, 1321], ∀ d < 1322, p % d = 0 → d = 1 ∨ d = p := by decide +kernel

/-- A number above 1 that no number between divides. -/
def Pr (q : Nat) : Prop := 1 < q ∧ ∀ d, d ∣ q → d = 1 ∨ d = q
theorem Pr.euclid {q a b : Nat} (h : Pr q) (hd : q ∣ a * b) : q ∣ a ∨ q ∣ b := by
  rcases h.2 (Nat.gcd q a) (Nat.gcd_dvd_left q a) with hg | hg
  · exact Or.inr (Nat.Coprime.dvd_of_dvd_mul_left hg hd)
  · exact Or.inl (hg ▸ Nat.gcd_dvd_right q a)
theorem exists_pr : ∀ m, 1 < m → ∃ q, Pr q ∧ q ∣ m := by
  intro m
  induction m using Nat.strongRecOn with
  | _ m ih =>
    intro hm
    by_cases h : ∀ d, d ∣ m → d = 1 ∨ d = m
    · exact ⟨m, ⟨hm, h⟩, Nat.dvd_refl m⟩
    · obtain ⟨d, hd⟩ := Classical.not_forall.1 h
      have hd' : d ∣ m ∧ d ≠ 1 ∧ d ≠ m := ⟨Classical.byContradiction fun c => hd fun e => absurd e c, fun e => hd fun _ => Or.inl e, fun e => hd fun _ => Or.inr e⟩
      have hpos : 0 < d := Nat.pos_of_dvd_of_pos hd'.1 (by omega)
      have hle := Nat.le_of_dvd (by omega) hd'.1
      obtain ⟨q, h1, h2⟩ := ih d (by omega) (by omega)
      exact ⟨q, h1, Nat.dvd_trans h2 hd'.1⟩
theorem of_small {q p : Nat} (h : Pr q) (hp : p ∈ [2, 3, 5, 7, 11, 13, 31, 41, 61, 151, 331, 1321]) (hd : q ∣ p) : q = p := by
  have hle : p < 1322 := by revert hp; revert p; intro p hd hp; simp at hp; omega
  have hpos : 0 < p := by revert hp; intro hp; simp at hp; omega
  have := Nat.le_of_dvd hpos hd
  rcases small p hp q (by omega) (Nat.mod_eq_zero_of_dvd hd) with e | e
  · have := h.1; omega
  · exact e
theorem pr_mem {q : Nat} (h : Pr q) (hd : q ∣ 2305843009213693950) : q ∈ [2, 3, 5, 7, 11, 13, 31, 41, 61, 151, 331, 1321] := by
  have key : ∀ (l : List Nat), (∀ p ∈ l, p ∈ [2, 3, 5, 7, 11, 13, 31, 41, 61, 151, 331, 1321]) → q ∣ l.foldr (· * ·) 1 → q ∈ [2, 3, 5, 7, 11, 13, 31, 41, 61, 151, 331, 1321] := by
    intro l
    induction l with
    | nil =>
      intro _ hq
      have h1 : q = 1 := by simpa using hq
      have := h.1
      omega
    | cons p r ih =>
      intro hl hq
      rcases h.euclid hq with h1 | h1
      · rw [of_small h (hl p (by simp)) h1]; exact hl p (by simp)
      · exact ih (fun x hx => hl x (by simp [hx])) h1
  exact key [2, 3, 3, 5, 5, 7, 11, 13, 31, 41, 61, 151, 331, 1321] (by decide) (by rw [show ([2, 3, 3, 5, 5, 7, 11, 13, 31, 41, 61, 151, 331, 1321] : List Nat).foldr (· * ·) 1 = 2305843009213693950 by decide]; exact hd)

theorem powP_1 : ∀ k, powP 1 k = 1 := by
  intro k
  induction k with
  | zero => exact powP_zero 1
  | succ k ih => rw [powP_add, ih, powP_one]

theorem powP_full_mul (k : Nat) : powP 37 (2305843009213693950 * k) = 1 := by
  rw [← powP_mul, full, powP_1]

/-- No smaller power of 37 is 1. -/
theorem order {n : Nat} (h0 : 0 < n) (hn : n < 2305843009213693950) : powP 37 n ≠ 1 := by
  -- the least one
  have least : ∀ n, 0 < n → powP 37 n = 1 → ∃ o, 0 < o ∧ powP 37 o = 1 ∧ o ≤ n ∧ ∀ m, 0 < m → m < o → powP 37 m ≠ 1 := by
    intro n
    induction n using Nat.strongRecOn with
    | _ n ih =>
      intro hp h1
      by_cases h : ∀ m, 0 < m → m < n → powP 37 m ≠ 1
      · exact ⟨n, hp, h1, Nat.le_refl n, h⟩
      · obtain ⟨m, hm⟩ := Classical.not_forall.1 h
        have hm' : 0 < m ∧ m < n ∧ powP 37 m = 1 := by
          refine ⟨Classical.byContradiction fun c => hm fun e => absurd e c, Classical.byContradiction fun c => hm fun _ e => absurd e c, Classical.byContradiction fun c => hm fun _ _ => c⟩
        obtain ⟨o, a, b, c, d⟩ := ih m hm'.2.1 hm'.1 hm'.2.2
        exact ⟨o, a, b, by omega, d⟩
  intro h1
  obtain ⟨o, ho, ho1, hon, hmin⟩ := least n h0 h1
  have hdiv : ∀ m, powP 37 m = 1 → o ∣ m := by
    intro m hm
    have e := Nat.div_add_mod m o
    have hlt := Nat.mod_lt m ho
    rw [← e, powP_add, ← powP_mul, ho1, powP_1, Nat.one_mul, Nat.mod_eq_of_lt (powP_lt _ _)] at hm
    by_cases hz : m % o = 0
    · exact Nat.dvd_of_mod_eq_zero hz
    · exact absurd hm (hmin _ (by omega) hlt)
  obtain ⟨m, hm⟩ := hdiv _ full
  have hm1 : 1 < m := by
    rcases Nat.lt_or_ge 1 m with h | h
    · exact h
    · have : o * m ≤ o * 1 := Nat.mul_le_mul_left o h
      omega
  obtain ⟨q, hq, m', rfl⟩ := exists_pr m hm1
  have hqd : q ∣ 2305843009213693950 := ⟨o * m', by rw [hm]; simp only [Nat.mul_left_comm]⟩
  refine parts q (pr_mem hq hqd) ?_
  have e : 2305843009213693950 / q = o * m' := by
    rw [hm, show o * (q * m') = q * (o * m') by simp only [Nat.mul_left_comm]]
    exact Nat.mul_div_cancel_left _ (by have := hq.1; omega)
  rw [e, ← powP_mul, ho1, powP_1]

theorem php : ∀ (n : Nat) (f : Nat → Nat), (∀ i, i < n → f i < n) → (∀ i j, i < n → j < n → f i = f j → i = j) → ∀ y, y < n → ∃ i, i < n ∧ f i = y := by
  intro n
  induction n with
  | zero => intro f _ _ y hy; omega
  | succ n ih =>
    intro f hf inj y hy
    have hs := ih (fun i => if f i = n then f n else f i) (fun i hi => by
        show (if f i = n then f n else f i) < n
        split
        · rename_i h
          have h1 := hf n (by omega)
          have h2 : f n ≠ n := fun e => by have := inj i n (by omega) (by omega) (h.trans e.symm); omega
          omega
        · rename_i h
          have := hf i (by omega)
          omega) (fun i j hi hj h => by
        have h' : (if f i = n then f n else f i) = (if f j = n then f n else f j) := h
        by_cases a : f i = n <;> by_cases b : f j = n
        · exact inj i j (by omega) (by omega) (a.trans b.symm)
        · rw [if_pos a, if_neg b] at h'; have := inj n j (by omega) (by omega) h'; omega
        · rw [if_neg a, if_pos b] at h'; have := inj i n (by omega) (by omega) h'; omega
        · rw [if_neg a, if_neg b] at h'; exact inj i j (by omega) (by omega) h')
    by_cases hz : y = f n
    · exact ⟨n, by omega, hz.symm⟩
    by_cases hn : y = n
    · subst hn
      have hlt := hf y (by omega)
      obtain ⟨i, hi, h⟩ := hs (f y) (by omega)
      have h' : (if f i = y then f y else f i) = f y := h
      by_cases a : f i = y
      · exact ⟨i, by omega, a⟩
      · rw [if_neg a] at h'; have := inj i y (by omega) (by omega) h'; omega
    · obtain ⟨i, hi, h⟩ := hs y (by omega)
      have h' : (if f i = n then f n else f i) = y := h
      by_cases a : f i = n
      · rw [if_pos a] at h'; exact absurd h'.symm hz
      · rw [if_neg a] at h'; exact ⟨i, by omega, h'⟩

theorem back (i : Nat) (hi : i ≤ 2305843009213693950) : powP 37 i * powP 37 (2305843009213693950 - i) % 2305843009213693951 = 1 := by
  rw [← powP_add, show i + (2305843009213693950 - i) = 2305843009213693950 by omega, full]
theorem powP_ne0 (i : Nat) (hi : i ≤ 2305843009213693950) : powP 37 i ≠ 0 := by
  intro h
  have := back i hi
  rw [h, Nat.zero_mul] at this
  simp at this
theorem inj37 {i j : Nat} (hi : i < 2305843009213693950) (hj : j < 2305843009213693950) (h : powP 37 i = powP 37 j) : i = j := by
  have key : ∀ i j, i < j → j < 2305843009213693950 → powP 37 i ≠ powP 37 j := by
    intro i j hij hj h
    have h1 := back i (by omega)
    rw [h, ← powP_add, show j + (2305843009213693950 - i) = 2305843009213693950 * 1 + (j - i) by omega, powP_add, powP_full_mul, Nat.one_mul, Nat.mod_eq_of_lt (powP_lt _ _)] at h1
    exact order (by omega) (by omega) h1
  rcases Nat.lt_trichotomy i j with h1 | h1 | h1
  · exact absurd h (key i j h1 hj)
  · exact h1
  · exact absurd h.symm (key j i h1 hi)
/-- Every number from 1 to P - 1 is a power of 37. -/
theorem generated {a : Nat} (h0 : 0 < a) (ha : a < 2305843009213693951) : ∃ i, powP 37 i = a := by
  obtain ⟨i, hi, h⟩ := php 2305843009213693950 (fun i => powP 37 i - 1) (fun i hi => by
      have := powP_lt 37 i; have := powP_ne0 i (by omega)
      show powP 37 i - 1 < 2305843009213693950
      omega) (fun i j hi hj h => by
      have h' : powP 37 i - 1 = powP 37 j - 1 := h
      have := powP_ne0 i (by omega); have := powP_ne0 j (by omega)
      exact inj37 hi hj (by omega)) (a - 1) (by omega)
  have h' : powP 37 i - 1 = a - 1 := h
  have := powP_ne0 i (by omega)
  exact ⟨i, by omega⟩
/-- The power P - 1 of what is not 0 is 1. -/
theorem fermat {a : Nat} (h : a % 2305843009213693951 ≠ 0) : powP a 2305843009213693950 = 1 := by
  obtain ⟨i, hi⟩ := generated (a := a % 2305843009213693951) (by omega) (KW.mod_lt_P a)
  rw [← powP_mod, ← hi, powP_mul, Nat.mul_comm, powP_full_mul]
theorem fermat_mul {a : Nat} (h : a % 2305843009213693951 ≠ 0) (k : Nat) : powP a (2305843009213693950 * k) = 1 := by
  rw [← powP_mul, fermat h, powP_1]
/-- Exponents count modulo N = P - 1. -/
theorem powP_modN {a : Nat} (h : a % 2305843009213693951 ≠ 0) (e : Nat) : powP a (e % 2305843009213693950) = powP a e := by
  conv => rhs; rw [← Nat.div_add_mod e 2305843009213693950, powP_add, fermat_mul h, Nat.one_mul, Nat.mod_eq_of_lt (powP_lt _ _)]
theorem powP_z {a : Nat} (h : a % 2305843009213693951 = 0) {e : Nat} (he : 0 < e) : powP a e = 0 := by
  obtain ⟨k, rfl⟩ : ∃ k, e = k + 1 := ⟨e - 1, by omega⟩
  rw [powP_add, powP_one, h, Nat.mul_zero]
end Go.Proofs.Ytkjmllohbohliaa.Modp
