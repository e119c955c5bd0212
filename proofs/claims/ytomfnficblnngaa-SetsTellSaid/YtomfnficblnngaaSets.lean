/- Package sets and the reference's functions of chapter 15. -/
import Derived.Test.YtomfnficblnngaaWords
import Derived.Test.YtomfnficblnngaaKe
import Derived.Test.YtomfnficblnngaaKr
namespace Go.Proofs.Ytomfnficblnngaa.Sets
open Go Go.RowKit Go.Proofs.Ytomfnficblnngaa.KW Go.Proofs.Ytomfnficblnngaa.Words
set_option linter.unusedVariables false
set_option linter.unusedSimpArgs false
set_option maxRecDepth 100000

/-! ### roots -/
def IsRoot (n : Int) (r : Nat) : Prop := (n < 0 → r = 0) ∧ (0 ≤ n → (r : Int) * r ≤ n ∧ n < (r + 1) * (r + 1))
theorem root_uniq {n : Int} {r s : Nat} (h : IsRoot n r) (g : IsRoot n s) : r = s := by
  by_cases hn : n < 0
  · rw [h.1 hn, g.1 hn]
  · obtain ⟨h1, h2⟩ := h.2 (by omega)
    obtain ⟨g1, g2⟩ := g.2 (by omega)
    have key : ∀ a b : Nat, (a : Int) * a ≤ n → n < (b + 1) * (b + 1) → a ≤ b := by
      intro a b ha hb
      rcases Nat.lt_or_ge b a with h | h
      · exfalso
        have h3 : ((b + 1 : Nat) : Int) * ((b + 1 : Nat) : Int) ≤ (a : Int) * a := by exact_mod_cast Nat.mul_le_mul h h
        have h4 : ((b + 1 : Nat) : Int) = (b : Int) + 1 := by omega
        rw [h4] at h3
        omega
      · exact h
    have := key r s h1 g2
    have := key s r g1 h2
    omega
theorem root_step {n : Int} {x j : Nat} (h1 : (x : Int) * x ≤ n) (h2 : n < ((x + 2 ^ (j + 1) : Nat) : Int) * ((x + 2 ^ (j + 1) : Nat) : Int)) (y : Nat) (hy : y = x + 2 ^ j) :
    ((y : Int) * y ≤ n → n < ((y + 2 ^ j : Nat) : Int) * ((y + 2 ^ j : Nat) : Int)) ∧ (¬ (y : Int) * y ≤ n → n < ((x + 2 ^ j : Nat) : Int) * ((x + 2 ^ j : Nat) : Int)) := by
  subst hy
  refine ⟨fun _ => ?_, fun h => by omega⟩
  rwa [show x + 2 ^ j + 2 ^ j = x + 2 ^ (j + 1) by rw [Nat.pow_succ]; omega]
theorem root_start {n : Int} (h : n ≤ 9223372036854775807) : n < ((0 + 2 ^ 32 : Nat) : Int) * ((0 + 2 ^ 32 : Nat) : Int) := by
  have : ((0 + 2 ^ 32 : Nat) : Int) * ((0 + 2 ^ 32 : Nat) : Int) = 18446744073709551616 := by decide
  omega
theorem pow_le32 {j : Nat} (h : j ≤ 32) : 2 ^ j ≤ 4294967296 ∧ 0 < 2 ^ j := ⟨by
  have := Nat.pow_le_pow_right (n := 2) (by decide) h
  simpa using this, Nat.two_pow_pos j⟩
theorem half_pow (j : Nat) : 2 ^ (j + 1) / 2 = 2 ^ j := by rw [Nat.pow_succ]; omega
theorem sq_le {t : Nat} (h : t ≤ 3037000499) : (t : Int) * t ≤ 9223372036854775807 := by
  have h1 : t * t ≤ 3037000499 * 3037000499 := Nat.mul_le_mul h h
  have h2 : (t : Int) * t = ((t * t : Nat) : Int) := by simp
  rw [h2]; omega
theorem sq_gt {t : Nat} (h : ¬ t ≤ 3037000499) : (9223372036854775807 : Int) < (t : Int) * t := by
  have h1 : 3037000500 * 3037000500 ≤ t * t := Nat.mul_le_mul (by omega) (by omega)
  have h2 : (t : Int) * t = ((t * t : Nat) : Int) := by simp
  rw [h2]; omega
theorem sq_nonneg (t : Nat) : 0 ≤ (t : Int) * t := by exact_mod_cast Nat.zero_le _
theorem Root_ok (n : Int) (w : World) (hn : -9223372036854775808 ≤ n ∧ n ≤ 9223372036854775807) : Ct Try.prog 50 #[.int .i64 n] w (fun v w' => ∃ r : Nat, v = .int .i64 (r : Int) ∧ IsRoot n r ∧ r ≤ 4294967296 ∧ w = w') := by
  refine Ct.enter [(0, .int .i64 n)] Try.func50 rfl rfl rfl rfl ?_
  refine C.seq ?_
  refine C.region ?_
  refine W.assign rfl rfl ?_
  refine W.nil ?_
  refine At.thenCode ?_
  refine C.seq ?_
  refine C.seq ?_
  refine C.region ?_
  refine W.move rfl rfl ?_
  refine W.lssI rfl rfl rfl ?_
  refine W.nil ?_
  refine At.thenCode ?_
  first | refine C.condD rfl (fun c7 => ?_) (fun c7 => ?_) | refine C.cond rfl (fun c7 => ?_) (fun c7 => ?_)
  · refine C.seq ?_
    refine C.region ?_
    refine W.assign rfl rfl ?_
    refine W.nil ?_
    refine At.thenCode ?_
    refine C.ret ?_
    refine At.thenRet ?_
    refine At.ret1 Try.results50 rfl ?_
    refine ⟨0, rfl, ⟨fun _ => rfl, fun h => ?_⟩, by omega, rfl⟩
    obtain rfl : n = 0 := by omega
    decide
  · refine C.skip ?_
    refine At.thenCode ?_
    refine C.seq ?_
    refine C.region ?_
    refine W.assign rfl rfl ?_
    refine W.nil ?_
    refine At.thenCode ?_
    refine C.seq ?_
    refine C.seq ?_
    refine C.region ?_
    refine W.assign rfl rfl ?_
    refine W.nil ?_
    refine At.thenCode ?_
    refine C.block ?_
    refine C.loop (X := Nat × Nat) (fun x_ => [(0, .int .i64 n), (3, .int .i64 (x_.2 : Int)), (4, .int .i64 ((2 ^ x_.1 / 2 : Nat) : Int))]) (fun x_ w1 => w = w1 ∧ x_.1 ≤ 32 ∧ x_.2 + 2 ^ x_.1 ≤ 4294967296 ∧ (x_.2 : Int) * x_.2 ≤ n ∧ n < ((x_.2 + 2 ^ x_.1 : Nat) : Int) * ((x_.2 + 2 ^ x_.1 : Nat) : Int)) (fun x_ => x_.1) (32, 0) (Sub.cons (rfl) (Sub.cons (rfl) (Sub.cons (rfl) (Sub.nil)))) ?start1 ?_
    case start1 =>
      show w = _ ∧ (32) ≤ 32 ∧ (0) + 2 ^ (32) ≤ 4294967296 ∧ ((0) : Int) * (0) ≤ n ∧ n < (((0) + 2 ^ (32) : Nat) : Int) * (((0) + 2 ^ (32) : Nat) : Int)
      exact ⟨rfl, by decide, by decide, by omega, root_start hn.2⟩
    rintro ⟨j, x⟩ w1 hI_
    replace hI_ : w = w1 ∧ j ≤ 32 ∧ x + 2 ^ j ≤ 4294967296 ∧ (x : Int) * x ≤ n ∧ n < ((x + 2 ^ j : Nat) : Int) * ((x + 2 ^ j : Nat) : Int) := hI_
    obtain ⟨rfl, hj, hx, h1, h2⟩ := hI_
    refine C.weaken (l' := [(0, .int .i64 n), (3, .int .i64 (x : Int)), (4, .int .i64 ((2 ^ j / 2 : Nat) : Int))]) (Sub.cons (rfl) (Sub.cons (rfl) (Sub.cons (rfl) (Sub.nil)))) ?_
    refine C.seq ?_
    refine C.seq ?_
    refine C.region ?_
    refine W.move rfl rfl ?_
    refine W.gtrI rfl rfl rfl ?_
    refine W.nil ?_
    refine At.thenCode ?_
    first | refine C.condD rfl (fun c9 => ?_) (fun c9 => ?_) | refine C.cond rfl (fun c9 => ?_) (fun c9 => ?_)
    · have hj0 : j ≠ 0 := by rintro rfl; exact absurd c9 (by decide)
      obtain ⟨i, hi⟩ : ∃ i, j = i + 1 := ⟨j - 1, by omega⟩
      have hp := pow_le32 (j := i) (by omega)
      have hp2 : 2 ^ j / 2 = 2 ^ i := by rw [hi]; exact half_pow i
      have hps : 2 ^ j = 2 ^ i + 2 ^ i := by rw [hi, Nat.pow_succ]; omega
      obtain ⟨y, hy⟩ : ∃ y, y = x + 2 ^ i := ⟨_, rfl⟩
      obtain ⟨s1, s2⟩ := root_step h1 (by rw [← hi]; exact h2) y hy
      refine C.skip ?_
      refine At.thenCode ?_
      refine C.seq ?_
      refine C.block ?_
      refine C.seq ?_
      refine C.region ?_
      refine W.move rfl rfl ?_
      refine W.move rfl rfl ?_
      first | refine W.addI rfl rfl (by omega) rfl ?_ | refine W.addW rfl rfl rfl ?_
      refine W.eqv (v' := .int .i64 (y : Int)) (iV (by rw [hy]; omega)) ?_
      refine W.assign rfl rfl ?_
      refine W.nil ?_
      refine At.thenCode ?_
      refine C.seq ?_
      refine C.region ?_
      refine W.move rfl rfl ?_
      refine W.move rfl rfl ?_
      refine W.move rfl rfl ?_
      first | refine W.quoI rfl rfl (by omega) rfl ?_ | refine W.quoW rfl rfl (by omega) rfl ?_
      refine W.leqI rfl rfl rfl ?_
      refine W.nil ?_
      refine At.thenCode ?_
      first | refine C.condD rfl (fun c19 => ?_) (fun c19 => ?_) | refine C.cond rfl (fun c19 => ?_) (fun c19 => ?_)
      · have hyn : (y : Int) * y ≤ n := (Int.le_ediv_iff_mul_le (by omega)).1 c19
        refine C.region ?_
        refine W.move rfl rfl ?_
        refine W.assign rfl rfl ?_
        refine W.nil ?_
        refine At.blockNormal ?_
        refine At.thenCode ?_
        refine C.region ?_
        refine W.move rfl rfl ?_
        refine W.shrI (s := 1) rfl rfl (by omega) rfl ?_
        refine W.eqv (v' := .int .i64 ((2 ^ i / 2 : Nat) : Int)) (iV (by omega)) ?_
        refine W.assign rfl rfl ?_
        refine W.nil ?_
        refine At.thenRound (i, y) (Sub.cons (rfl) (Sub.cons (rfl) (Sub.cons (rfl) (Sub.nil)))) (show w = _ ∧ (i) ≤ 32 ∧ (y) + 2 ^ (i) ≤ 4294967296 ∧ ((y) : Int) * (y) ≤ n ∧ n < (((y) + 2 ^ (i) : Nat) : Int) * (((y) + 2 ^ (i) : Nat) : Int) from ?_) (show (i) < j from ?_)
        · exact ⟨rfl, by omega, by omega, hyn, s1 hyn⟩
        · omega
      · have hyn : ¬ (y : Int) * y ≤ n := fun h => c19 ((Int.le_ediv_iff_mul_le (by omega)).2 h)
        refine C.skip ?_
        refine At.blockNormal ?_
        refine At.thenCode ?_
        refine C.region ?_
        refine W.move rfl rfl ?_
        refine W.shrI (s := 1) rfl rfl (by omega) rfl ?_
        refine W.eqv (v' := .int .i64 ((2 ^ i / 2 : Nat) : Int)) (iV (by omega)) ?_
        refine W.assign rfl rfl ?_
        refine W.nil ?_
        refine At.thenRound (i, x) (Sub.cons (rfl) (Sub.cons (rfl) (Sub.cons (rfl) (Sub.nil)))) (show w = _ ∧ (i) ≤ 32 ∧ (x) + 2 ^ (i) ≤ 4294967296 ∧ ((x) : Int) * (x) ≤ n ∧ n < (((x) + 2 ^ (i) : Nat) : Int) * (((x) + 2 ^ (i) : Nat) : Int) from ?_) (show (i) < j from ?_)
        · exact ⟨rfl, by omega, by omega, h1, s2 hyn⟩
        · omega
    · have hj0 : j = 0 := by
        cases j with
        | zero => rfl
        | succ j => exfalso; rw [half_pow] at c9; have := Nat.two_pow_pos j; omega
      subst hj0
      have h2' : n < ((x : Int) + 1) * ((x : Int) + 1) := by simpa using h2
      refine C.exit ?_
      refine At.thenExit ?_
      refine At.thenExit ?_
      refine At.blockSelf ?_
      refine At.thenCode ?_
      refine C.seq ?_
      refine C.region ?_
      refine W.move rfl rfl ?_
      refine W.assign rfl rfl ?_
      refine W.nil ?_
      refine At.thenCode ?_
      refine C.ret ?_
      refine At.ret1 Try.results50 rfl ?_
      exact ⟨x, rfl, ⟨fun h => by omega, fun _ => ⟨h1, h2'⟩⟩, by omega, rfl⟩

/-! ### pairs -/
def tri (g : Nat) : Nat := g * (g - 1) / 2
theorem tri_succ (g : Nat) : tri (g + 1) = tri g + g := by
  unfold tri
  cases g with
  | zero => rfl
  | succ g =>
    have e : (g + 1 + 1) * (g + 1 + 1 - 1) = (g + 1) * (g + 1 - 1) + (g + 1) * 2 := by
      simp only [Nat.add_sub_cancel]
      rw [← Nat.mul_add, Nat.mul_comm]
    rw [e]
    omega
theorem tri_mono {g h : Nat} (hl : g ≤ h) : tri g ≤ tri h := by
  induction h with
  | zero => obtain rfl : g = 0 := by omega
            exact Nat.le_refl _
  | succ h ih =>
    by_cases e : g = h + 1
    · subst e; exact Nat.le_refl _
    · rw [tri_succ]; have := ih (by omega); omega
theorem tri_le {g : Nat} (h : g ≤ 1048577) : tri g ≤ 549756338176 := by
  have := tri_mono h
  have e : tri 1048577 = 549756338176 := by decide
  omega
theorem tri_int {g : Nat} (h : 1 ≤ g) : ((g : Int) * ((g : Int) - 1)) / 2 = (tri g : Int) := by
  have e : ((g : Int) - 1) = ((g - 1 : Nat) : Int) := by omega
  rw [e]
  unfold tri
  exact_mod_cast rfl
theorem tri_bound {g : Nat} (h : g ≤ 1048577) (h1 : 1 ≤ g) : 0 ≤ (g : Int) * ((g : Int) - 1) ∧ (g : Int) * ((g : Int) - 1) ≤ 1099512676352 := by
  have e : ((g : Int) - 1) = ((g - 1 : Nat) : Int) := by omega
  rw [e]
  have h2 : g * (g - 1) ≤ 1048577 * 1048576 := Nat.mul_le_mul h (by omega)
  have h3 : (g : Int) * ((g - 1 : Nat) : Int) = ((g * (g - 1) : Nat) : Int) := by simp
  rw [h3]; omega
theorem tri_inj {g h a b : Nat} (ha : a < g) (hb : b < h) (e : tri g + a = tri h + b) : g = h ∧ a = b := by
  rcases Nat.lt_trichotomy g h with c | c | c
  · exfalso
    have := tri_mono (show g + 1 ≤ h by omega)
    rw [tri_succ] at this
    omega
  · subst c; exact ⟨rfl, by omega⟩
  · exfalso
    have := tri_mono (show h + 1 ≤ g by omega)
    rw [tri_succ] at this
    omega
/-- Each number below that of all pairs is one's. -/
theorem tri_onto (g : Nat) : ∀ c, c < tri g → ∃ a b, b < a ∧ a < g ∧ c = tri a + b := by
  induction g with
  | zero => intro c hc; exact absurd hc (by unfold tri; simp)
  | succ g ih =>
    intro c hc
    rw [tri_succ] at hc
    by_cases h : c < tri g
    · obtain ⟨a, b, h1, h2, h3⟩ := ih c h
      exact ⟨a, b, h1, by omega, h3⟩
    · exact ⟨g, c - tri g, by omega, by omega, by omega⟩
def pairBad (a b : Int) : Prop := a = b ∨ a < 0 ∨ b < 0 ∨ 1048576 < a ∨ 1048576 < b
instance (a b : Int) : Decidable (pairBad a b) := by unfold pairBad; infer_instance
def pairN (a b : Int) : Nat := if pairBad a b then 0 else tri (max a b).toNat + (min a b).toNat
def pairE (a b : Int) : Nat := if pairBad a b then 1 else 0
theorem pair_comm (a b : Int) : pairN a b = pairN b a ∧ pairE a b = pairE b a := by
  have hb : pairBad a b ↔ pairBad b a := by unfold pairBad; omega
  unfold pairN pairE
  by_cases h : pairBad a b
  · rw [if_pos h, if_pos (hb.1 h), if_pos h, if_pos (hb.1 h)]; exact ⟨rfl, rfl⟩
  · rw [if_neg h, if_neg (fun c => h (hb.2 c)), if_neg h, if_neg (fun c => h (hb.2 c)), Int.max_comm, Int.min_comm]; exact ⟨rfl, rfl⟩
theorem pair_le (a b : Int) : pairN a b ≤ 1099511627776 := by
  unfold pairN
  split
  · omega
  · rename_i h
    unfold pairBad at h
    have := tri_le (g := (max a b).toNat) (by omega)
    omega
theorem pair_inj {a b c d : Int} (h : ¬ pairBad a b) (g : ¬ pairBad c d) : pairN c d = pairN a b ↔ (a = c ∧ b = d) ∨ (a = d ∧ b = c) := by
  unfold pairN
  rw [if_neg h, if_neg g]
  unfold pairBad at h g
  constructor
  · intro e
    obtain ⟨h1, h2⟩ := tri_inj (by omega) (by omega) e
    omega
  · rintro (⟨rfl, rfl⟩ | ⟨rfl, rfl⟩)
    · rfl
    · rw [Int.max_comm, Int.min_comm]
theorem Pair_ok (a b : Int) (w : World) (ha : -9223372036854775808 ≤ a ∧ a ≤ 9223372036854775807) (hb : -9223372036854775808 ≤ b ∧ b ≤ 9223372036854775807) : Ct Try.prog 52 #[.int .i64 a, .int .i64 b] w (fun v w' => v = .tuple #[.int .i64 (pairN a b : Int), .int .i64 (pairE a b : Int)] ∧ w = w') := by
  refine Ct.enter [(0, .int .i64 a), (1, .int .i64 b)] Try.func52 rfl rfl rfl rfl ?_
  refine C.seq ?_
  refine C.region ?_
  refine W.assign rfl rfl ?_
  refine W.assign rfl rfl ?_
  refine W.nil ?_
  refine At.thenCode ?_
  refine C.seq ?_
  refine C.seq ?_
  refine C.region ?_
  refine W.move rfl rfl ?_
  refine W.move rfl rfl ?_
  refine W.eqlI rfl rfl rfl ?_
  refine W.move rfl rfl ?_
  first | refine W.splitD (fun g10 => ?_) (fun g10 => ?_) | refine W.splitB (fun g10 => ?_) (fun g10 => ?_)
  · refine W.skips rfl rfl rfl rfl rfl rfl ?_
    refine W.skips rfl rfl rfl rfl rfl rfl ?_
    refine W.skips rfl rfl rfl rfl rfl rfl ?_
    refine W.skips rfl rfl rfl rfl rfl rfl ?_
    refine W.pickT rfl rfl rfl ?_
    refine W.move rfl rfl ?_
    refine W.skips rfl rfl rfl rfl rfl rfl ?_
    refine W.skips rfl rfl rfl rfl rfl rfl ?_
    refine W.skips rfl rfl rfl rfl rfl rfl ?_
    refine W.skips rfl rfl rfl rfl rfl rfl ?_
    refine W.pickT rfl rfl rfl ?_
    refine W.nil ?_
    refine At.thenCode ?_
    refine C.condT rfl ?_
    refine C.seq ?_
    refine C.region ?_
    refine W.assign rfl rfl ?_
    refine W.assign rfl rfl ?_
    refine W.nil ?_
    refine At.thenCode ?_
    refine C.ret ?_
    refine At.thenRet ?_
    refine At.ret2 Try.results52 rfl rfl ?_
    first
    | exact ⟨by rw [hpn, hpe]; rfl, rfl⟩
    | (have hbad : pairBad a b := by unfold pairBad; omega
       exact ⟨by unfold pairN pairE; rw [if_pos hbad, if_pos hbad]; rfl, rfl⟩)
  · refine W.wants rfl rfl rfl rfl ?_
    refine W.move rfl rfl ?_
    refine W.wants rfl rfl rfl rfl ?_
    refine W.move rfl rfl ?_
    refine W.wants rfl rfl rfl rfl ?_
    refine W.minI rfl rfl rfl ?_
    refine W.wants rfl rfl rfl rfl ?_
    refine W.lssI rfl rfl rfl ?_
    refine W.pickF rfl rfl rfl ?_
    refine W.move rfl rfl ?_
    first | refine W.splitD (fun g16 => ?_) (fun g16 => ?_) | refine W.splitB (fun g16 => ?_) (fun g16 => ?_)
    · refine W.skips rfl rfl rfl rfl rfl rfl ?_
      refine W.skips rfl rfl rfl rfl rfl rfl ?_
      refine W.skips rfl rfl rfl rfl rfl rfl ?_
      refine W.skips rfl rfl rfl rfl rfl rfl ?_
      refine W.pickT rfl rfl rfl ?_
      refine W.nil ?_
      refine At.thenCode ?_
      refine C.condT rfl ?_
      refine C.seq ?_
      refine C.region ?_
      refine W.assign rfl rfl ?_
      refine W.assign rfl rfl ?_
      refine W.nil ?_
      refine At.thenCode ?_
      refine C.ret ?_
      refine At.thenRet ?_
      refine At.ret2 Try.results52 rfl rfl ?_
      first
      | exact ⟨by rw [hpn, hpe]; rfl, rfl⟩
      | (have hbad : pairBad a b := by unfold pairBad; omega
         exact ⟨by unfold pairN pairE; rw [if_pos hbad, if_pos hbad]; rfl, rfl⟩)
    · refine W.wants rfl rfl rfl rfl ?_
      refine W.move rfl rfl ?_
      refine W.wants rfl rfl rfl rfl ?_
      refine W.move rfl rfl ?_
      refine W.wants rfl rfl rfl rfl ?_
      refine W.maxI rfl rfl rfl ?_
      refine W.wants rfl rfl rfl rfl ?_
      refine W.gtrI rfl rfl rfl ?_
      refine W.pickF rfl rfl rfl ?_
      refine W.nil ?_
      refine At.thenCode ?_
      first | refine C.condD rfl (fun c21 => ?_) (fun c21 => ?_) | refine C.cond rfl (fun c21 => ?_) (fun c21 => ?_)
      · refine C.seq ?_
        refine C.region ?_
        refine W.assign rfl rfl ?_
        refine W.assign rfl rfl ?_
        refine W.nil ?_
        refine At.thenCode ?_
        refine C.ret ?_
        refine At.thenRet ?_
        refine At.ret2 Try.results52 rfl rfl ?_
        first
        | exact ⟨by rw [hpn, hpe]; rfl, rfl⟩
        | (have hbad : pairBad a b := by unfold pairBad; omega
           exact ⟨by unfold pairN pairE; rw [if_pos hbad, if_pos hbad]; rfl, rfl⟩)
      · refine C.skip ?_
        refine At.thenCode ?_
        refine C.seq ?_
        refine C.region ?_
        refine W.move rfl rfl ?_
        refine W.move rfl rfl ?_
        refine W.maxI rfl rfl rfl ?_
        have hnb : ¬ pairBad a b := by unfold pairBad; omega
        obtain ⟨g, hg⟩ : ∃ g : Nat, max a b = (g : Int) := ⟨(max a b).toNat, by omega⟩
        obtain ⟨m, hm⟩ : ∃ m : Nat, min a b = (m : Int) := ⟨(min a b).toNat, by omega⟩
        have hbd := tri_bound (g := g) (by omega) (by omega)
        have hti := tri_int (g := g) (by omega)
        have htl := tri_le (g := g) (by omega)
        have hpn : (pairN a b : Int) = (tri g : Int) + (m : Int) := by unfold pairN; rw [if_neg hnb, hg, hm]; simp
        have hpe : pairE a b = 0 := by unfold pairE; rw [if_neg hnb]
        rw [hg]
        refine W.assign rfl rfl ?_
        refine W.nil ?_
        refine At.thenCode ?_
        refine C.seq ?_
        refine C.region ?_
        refine W.move rfl rfl ?_
        refine W.move rfl rfl ?_
        first | refine W.subI rfl rfl (by omega) rfl ?_ | refine W.subW rfl rfl rfl ?_
        refine W.mulI rfl rfl (by omega) rfl ?_
        first | refine W.quoI rfl rfl (by omega) rfl ?_ | refine W.quoW rfl rfl (by omega) rfl ?_
        rw [hti]
        refine W.move rfl rfl ?_
        refine W.move rfl rfl ?_
        refine W.minI rfl rfl rfl ?_
        rw [hm]
        first | refine W.addI rfl rfl (by omega) rfl ?_ | refine W.addW rfl rfl rfl ?_
        refine W.assign rfl rfl ?_
        refine W.assign rfl rfl ?_
        refine W.nil ?_
        refine At.thenCode ?_
        refine C.ret ?_
        refine At.ret2 Try.results52 rfl rfl ?_
        first
        | exact ⟨by rw [hpn, hpe]; rfl, rfl⟩
        | (have hbad : pairBad a b := by unfold pairBad; omega
           exact ⟨by unfold pairN pairE; rw [if_pos hbad, if_pos hbad]; rfl, rfl⟩)
theorem RPair_ok (a b : Int) (w : World) (ha : -9223372036854775808 ≤ a ∧ a ≤ 9223372036854775807) (hb : -9223372036854775808 ≤ b ∧ b ≤ 9223372036854775807) : Ct Try.prog 54 #[.int .i64 a, .int .i64 b] w (fun v w' => v = .tuple #[.int .i64 (pairN a b : Int), .int .i64 (pairE a b : Int)] ∧ w = w') := by
  refine Ct.enter [(0, .int .i64 a), (1, .int .i64 b)] Try.func54 rfl rfl rfl rfl ?_
  refine C.seq ?_
  refine C.region ?_
  refine W.assign rfl rfl ?_
  refine W.assign rfl rfl ?_
  refine W.nil ?_
  refine At.thenCode ?_
  refine C.seq ?_
  refine C.seq ?_
  refine C.region ?_
  refine W.move rfl rfl ?_
  refine W.move rfl rfl ?_
  refine W.eqlI rfl rfl rfl ?_
  refine W.move rfl rfl ?_
  first | refine W.splitD (fun g9 => ?_) (fun g9 => ?_) | refine W.splitB (fun g9 => ?_) (fun g9 => ?_)
  · refine W.skips rfl rfl rfl rfl rfl rfl ?_
    refine W.skips rfl rfl rfl rfl rfl rfl ?_
    refine W.pickT rfl rfl rfl ?_
    refine W.move rfl rfl ?_
    refine W.skips rfl rfl rfl rfl rfl rfl ?_
    refine W.skips rfl rfl rfl rfl rfl rfl ?_
    refine W.pickT rfl rfl rfl ?_
    refine W.move rfl rfl ?_
    refine W.skips rfl rfl rfl rfl rfl rfl ?_
    refine W.skips rfl rfl rfl rfl rfl rfl ?_
    refine W.pickT rfl rfl rfl ?_
    refine W.move rfl rfl ?_
    refine W.skips rfl rfl rfl rfl rfl rfl ?_
    refine W.skips rfl rfl rfl rfl rfl rfl ?_
    refine W.pickT rfl rfl rfl ?_
    refine W.nil ?_
    refine At.thenCode ?_
    refine C.condT rfl ?_
    refine C.seq ?_
    refine C.region ?_
    refine W.assign rfl rfl ?_
    refine W.assign rfl rfl ?_
    refine W.nil ?_
    refine At.thenCode ?_
    refine C.ret ?_
    refine At.thenRet ?_
    refine At.ret2 Try.results54 rfl rfl ?_
    first
    | exact ⟨by rw [hpn, hpe]; rfl, rfl⟩
    | (have hbad : pairBad a b := by unfold pairBad; omega
       exact ⟨by unfold pairN pairE; rw [if_pos hbad, if_pos hbad]; rfl, rfl⟩)
  · refine W.wants rfl rfl rfl rfl ?_
    refine W.move rfl rfl ?_
    refine W.wants rfl rfl rfl rfl ?_
    refine W.lssI rfl rfl rfl ?_
    refine W.pickF rfl rfl rfl ?_
    refine W.move rfl rfl ?_
    first | refine W.splitD (fun g13 => ?_) (fun g13 => ?_) | refine W.splitB (fun g13 => ?_) (fun g13 => ?_)
    · refine W.skips rfl rfl rfl rfl rfl rfl ?_
      refine W.skips rfl rfl rfl rfl rfl rfl ?_
      refine W.pickT rfl rfl rfl ?_
      refine W.move rfl rfl ?_
      refine W.skips rfl rfl rfl rfl rfl rfl ?_
      refine W.skips rfl rfl rfl rfl rfl rfl ?_
      refine W.pickT rfl rfl rfl ?_
      refine W.move rfl rfl ?_
      refine W.skips rfl rfl rfl rfl rfl rfl ?_
      refine W.skips rfl rfl rfl rfl rfl rfl ?_
      refine W.pickT rfl rfl rfl ?_
      refine W.nil ?_
      refine At.thenCode ?_
      refine C.condT rfl ?_
      refine C.seq ?_
      refine C.region ?_
      refine W.assign rfl rfl ?_
      refine W.assign rfl rfl ?_
      refine W.nil ?_
      refine At.thenCode ?_
      refine C.ret ?_
      refine At.thenRet ?_
      refine At.ret2 Try.results54 rfl rfl ?_
      first
      | exact ⟨by rw [hpn, hpe]; rfl, rfl⟩
      | (have hbad : pairBad a b := by unfold pairBad; omega
         exact ⟨by unfold pairN pairE; rw [if_pos hbad, if_pos hbad]; rfl, rfl⟩)
    · refine W.wants rfl rfl rfl rfl ?_
      refine W.move rfl rfl ?_
      refine W.wants rfl rfl rfl rfl ?_
      refine W.lssI rfl rfl rfl ?_
      refine W.pickF rfl rfl rfl ?_
      refine W.move rfl rfl ?_
      first | refine W.splitD (fun g17 => ?_) (fun g17 => ?_) | refine W.splitB (fun g17 => ?_) (fun g17 => ?_)
      · refine W.skips rfl rfl rfl rfl rfl rfl ?_
        refine W.skips rfl rfl rfl rfl rfl rfl ?_
        refine W.pickT rfl rfl rfl ?_
        refine W.move rfl rfl ?_
        refine W.skips rfl rfl rfl rfl rfl rfl ?_
        refine W.skips rfl rfl rfl rfl rfl rfl ?_
        refine W.pickT rfl rfl rfl ?_
        refine W.nil ?_
        refine At.thenCode ?_
        refine C.condT rfl ?_
        refine C.seq ?_
        refine C.region ?_
        refine W.assign rfl rfl ?_
        refine W.assign rfl rfl ?_
        refine W.nil ?_
        refine At.thenCode ?_
        refine C.ret ?_
        refine At.thenRet ?_
        refine At.ret2 Try.results54 rfl rfl ?_
        first
        | exact ⟨by rw [hpn, hpe]; rfl, rfl⟩
        | (have hbad : pairBad a b := by unfold pairBad; omega
           exact ⟨by unfold pairN pairE; rw [if_pos hbad, if_pos hbad]; rfl, rfl⟩)
      · refine W.wants rfl rfl rfl rfl ?_
        refine W.move rfl rfl ?_
        refine W.wants rfl rfl rfl rfl ?_
        refine W.gtrI rfl rfl rfl ?_
        refine W.pickF rfl rfl rfl ?_
        refine W.move rfl rfl ?_
        first | refine W.splitD (fun g21 => ?_) (fun g21 => ?_) | refine W.splitB (fun g21 => ?_) (fun g21 => ?_)
        · refine W.skips rfl rfl rfl rfl rfl rfl ?_
          refine W.skips rfl rfl rfl rfl rfl rfl ?_
          refine W.pickT rfl rfl rfl ?_
          refine W.nil ?_
          refine At.thenCode ?_
          refine C.condT rfl ?_
          refine C.seq ?_
          refine C.region ?_
          refine W.assign rfl rfl ?_
          refine W.assign rfl rfl ?_
          refine W.nil ?_
          refine At.thenCode ?_
          refine C.ret ?_
          refine At.thenRet ?_
          refine At.ret2 Try.results54 rfl rfl ?_
          first
          | exact ⟨by rw [hpn, hpe]; rfl, rfl⟩
          | (have hbad : pairBad a b := by unfold pairBad; omega
             exact ⟨by unfold pairN pairE; rw [if_pos hbad, if_pos hbad]; rfl, rfl⟩)
        · refine W.wants rfl rfl rfl rfl ?_
          refine W.move rfl rfl ?_
          refine W.wants rfl rfl rfl rfl ?_
          refine W.gtrI rfl rfl rfl ?_
          refine W.pickF rfl rfl rfl ?_
          refine W.nil ?_
          refine At.thenCode ?_
          first | refine C.condD rfl (fun c24 => ?_) (fun c24 => ?_) | refine C.cond rfl (fun c24 => ?_) (fun c24 => ?_)
          · refine C.seq ?_
            refine C.region ?_
            refine W.assign rfl rfl ?_
            refine W.assign rfl rfl ?_
            refine W.nil ?_
            refine At.thenCode ?_
            refine C.ret ?_
            refine At.thenRet ?_
            refine At.ret2 Try.results54 rfl rfl ?_
            first
            | exact ⟨by rw [hpn, hpe]; rfl, rfl⟩
            | (have hbad : pairBad a b := by unfold pairBad; omega
               exact ⟨by unfold pairN pairE; rw [if_pos hbad, if_pos hbad]; rfl, rfl⟩)
          · refine C.skip ?_
            refine At.thenCode ?_
            refine C.seq ?_
            refine C.seq ?_
            refine C.region ?_
            refine W.move rfl rfl ?_
            refine W.move rfl rfl ?_
            refine W.lssI rfl rfl rfl ?_
            refine W.nil ?_
            refine At.thenCode ?_
            first | refine C.condD rfl (fun c27 => ?_) (fun c27 => ?_) | refine C.cond rfl (fun c27 => ?_) (fun c27 => ?_)
            · have hnb : ¬ pairBad a b := by unfold pairBad; omega
              obtain ⟨g, rfl⟩ : ∃ g : Nat, b = (g : Int) := ⟨b.toNat, by omega⟩
              obtain ⟨m, rfl⟩ : ∃ m : Nat, a = (m : Int) := ⟨a.toNat, by omega⟩
              have hbd := tri_bound (g := g) (by omega) (by omega)
              have hti := tri_int (g := g) (by omega)
              have htl := tri_le (g := g) (by omega)
              have hpn : (pairN (m : Int) (g : Int) : Int) = (tri g : Int) + (m : Int) := by unfold pairN; rw [if_neg hnb, show max (m : Int) (g : Int) = (g : Int) by omega, show min (m : Int) (g : Int) = (m : Int) by omega]; simp
              have hpe : pairE (m : Int) (g : Int) = 0 := by unfold pairE; rw [if_neg hnb]
              refine C.seq ?_
              refine C.region ?_
              refine W.move rfl rfl ?_
              refine W.move rfl rfl ?_
              first | refine W.subI rfl rfl (by omega) rfl ?_ | refine W.subW rfl rfl rfl ?_
              refine W.mulI rfl rfl (by omega) rfl ?_
              first | refine W.quoI rfl rfl (by omega) rfl ?_ | refine W.quoW rfl rfl (by omega) rfl ?_
              rw [hti]
              refine W.move rfl rfl ?_
              first | refine W.addI rfl rfl (by omega) rfl ?_ | refine W.addW rfl rfl rfl ?_
              refine W.assign rfl rfl ?_
              refine W.assign rfl rfl ?_
              refine W.nil ?_
              refine At.thenCode ?_
              refine C.ret ?_
              refine At.thenRet ?_
              refine At.ret2 Try.results54 rfl rfl ?_
              first
              | exact ⟨by rw [hpn, hpe]; rfl, rfl⟩
              | (have hbad : pairBad a b := by unfold pairBad; omega
                 exact ⟨by unfold pairN pairE; rw [if_pos hbad, if_pos hbad]; rfl, rfl⟩)
            · have hnb : ¬ pairBad a b := by unfold pairBad; omega
              obtain ⟨g, rfl⟩ : ∃ g : Nat, a = (g : Int) := ⟨a.toNat, by omega⟩
              obtain ⟨m, rfl⟩ : ∃ m : Nat, b = (m : Int) := ⟨b.toNat, by omega⟩
              have hbd := tri_bound (g := g) (by omega) (by omega)
              have hti := tri_int (g := g) (by omega)
              have htl := tri_le (g := g) (by omega)
              have hpn : (pairN (g : Int) (m : Int) : Int) = (tri g : Int) + (m : Int) := by unfold pairN; rw [if_neg hnb, show max (g : Int) (m : Int) = (g : Int) by omega, show min (g : Int) (m : Int) = (m : Int) by omega]; simp
              have hpe : pairE (g : Int) (m : Int) = 0 := by unfold pairE; rw [if_neg hnb]
              refine C.skip ?_
              refine At.thenCode ?_
              refine C.seq ?_
              refine C.region ?_
              refine W.move rfl rfl ?_
              refine W.move rfl rfl ?_
              first | refine W.subI rfl rfl (by omega) rfl ?_ | refine W.subW rfl rfl rfl ?_
              refine W.mulI rfl rfl (by omega) rfl ?_
              first | refine W.quoI rfl rfl (by omega) rfl ?_ | refine W.quoW rfl rfl (by omega) rfl ?_
              rw [hti]
              refine W.move rfl rfl ?_
              first | refine W.addI rfl rfl (by omega) rfl ?_ | refine W.addW rfl rfl rfl ?_
              refine W.assign rfl rfl ?_
              refine W.assign rfl rfl ?_
              refine W.nil ?_
              refine At.thenCode ?_
              refine C.ret ?_
              refine At.ret2 Try.results54 rfl rfl ?_
              first
              | exact ⟨by rw [hpn, hpe]; rfl, rfl⟩
              | (have hbad : pairBad a b := by unfold pairBad; omega
                 exact ⟨by unfold pairN pairE; rw [if_pos hbad, if_pos hbad]; rfl, rfl⟩)

/-! ### sides -/
def sdN (n : Nat) : Nat → Nat
  | 0 => 1
  | k + 1 => if n ≤ tri (sdN n k + 1) then sdN n k else sdN n k + 1
theorem sdN_spec (n : Nat) : ∀ k, 1 ≤ sdN n k ∧ (sdN n k = 1 ∨ tri (sdN n k) < n) ∧ (n ≤ tri (sdN n k + 1) ∨ sdN n k = k + 1) := by
  intro k
  induction k with
  | zero => exact ⟨Nat.le_refl _, .inl rfl, .inr rfl⟩
  | succ k ih =>
    unfold sdN
    split
    · rename_i h; exact ⟨ih.1, ih.2.1, .inl h⟩
    · rename_i h
      refine ⟨by omega, .inr (by omega), .inr ?_⟩
      rcases ih.2.2 with h1 | h1
      · exact absurd h1 h
      · omega
def okN (n : Int) : Prop := 1 ≤ n ∧ n ≤ 1048576
instance (n : Int) : Decidable (okN n) := by unfold okN; infer_instance
def sidesN (n : Int) : Nat := if okN n then sdN n.toNat 1500 else 0
def IsSides (n : Int) (l : Nat) : Prop := 1 ≤ l ∧ n ≤ tri (l + 1) ∧ (l = 1 ∨ (tri l : Int) < n)
theorem sides_spec {n : Int} (h : okN n) : IsSides n (sidesN n) := by
  unfold sidesN
  rw [if_pos h]
  obtain ⟨h1, h2, h3⟩ := sdN_spec n.toNat 1500
  unfold okN at h
  refine ⟨h1, ?_, ?_⟩
  · rcases h3 with h3 | h3
    · omega
    · rw [h3]
      have : tri (1500 + 1 + 1) = 1127251 := by decide
      omega
  · rcases h2 with h2 | h2
    · exact .inl h2
    · exact .inr (by omega)
theorem sides_uniq {n : Int} {l m : Nat} (h : IsSides n l) (g : IsSides n m) : l = m := by
  have key : ∀ a b : Nat, IsSides n a → IsSides n b → a ≤ b := by
    intro a b ⟨a1, a2, a3⟩ ⟨b1, b2, b3⟩
    rcases Nat.lt_or_ge b a with c | c
    · exfalso
      rcases a3 with a3 | a3
      · omega
      · have := tri_mono (show b + 1 ≤ a by omega); omega
    · exact c
  exact Nat.le_antisymm (key l m h g) (key m l g h)
theorem sides_le {n : Int} (h : okN n) {l : Nat} (hl : 1 ≤ l) (g : l = 1 ∨ (tri l : Int) < n) : l ≤ 1449 := by
  rcases Nat.lt_or_ge 1449 l with c | c
  · exfalso
    have := tri_mono (show 1450 ≤ l by omega)
    have e : tri 1450 = 1050525 := by decide
    unfold okN at h
    rcases g with g | g <;> omega
  · exact c
theorem sidesN_le (n : Int) : sidesN n ≤ 1449 := by
  by_cases h : okN n
  · have := sides_spec h
    exact sides_le h this.1 this.2.2
  · unfold sidesN; rw [if_neg h]; omega
theorem tri_half {l : Nat} : ((l : Int) * ((l : Int) + 1)) / 2 = (tri (l + 1) : Int) := by
  have := tri_int (g := l + 1) (by omega)
  rw [← this, show ((l + 1 : Nat) : Int) = (l : Int) + 1 by omega, show (l : Int) + 1 - 1 = l by omega, Int.mul_comm]
theorem tri_hb {l : Nat} (h : l ≤ 1048576) : 0 ≤ (l : Int) * ((l : Int) + 1) ∧ (l : Int) * ((l : Int) + 1) ≤ 1099512676352 := by
  have := tri_bound (g := l + 1) (by omega) (by omega)
  rwa [show ((l + 1 : Nat) : Int) = (l : Int) + 1 by omega, show (l : Int) + 1 - 1 = l by omega, Int.mul_comm] at this
/-- Where the program begins to count. -/
theorem sides_start {n : Int} (h : okN n) {r : Nat} (hr : IsRoot (8 * n + 1) r) (l : Nat) (hl : (l : Int) = max 1 (((r : Int) - 1) / 2)) : 1 ≤ l ∧ (l = 1 ∨ (tri l : Int) < n) := by
  refine ⟨by omega, ?_⟩
  by_cases e : l = 1
  · exact .inl e
  · right
    unfold okN at h
    obtain ⟨h1, _⟩ := hr.2 (by omega)
    have h2 : 2 * l + 1 ≤ r := by omega
    have h3 : (2 * l + 1) * (2 * l + 1) ≤ r * r := Nat.mul_le_mul h2 h2
    have h4 : (r : Int) * r = ((r * r : Nat) : Int) := by simp
    have h5 : (2 * l + 1) * (2 * l + 1) = 4 * (l * (l + 1)) + 1 := by
      have h9 : 2 * l * (2 * l) = 4 * (l * l) := Nat.mul_mul_mul_comm 2 l 2 l
      simp only [Nat.mul_add, Nat.add_mul, Nat.mul_one, Nat.one_mul]
      omega
    have h6 : tri (l + 1) = (l + 1) * l / 2 := rfl
    have h7 : (l + 1) * l = l * (l + 1) := Nat.mul_comm _ _
    have h8 := tri_succ l
    omega
theorem right_ok (n : Int) (w : World) : Ct Try.prog 55 #[.int .i64 n] w (fun v w' => v = .bool (decide (okN n)) ∧ w = w') := by
  refine Ct.enter [(0, .int .i64 n)] Try.func55 rfl rfl rfl rfl ?_
  refine C.seq ?_
  refine C.region ?_
  refine W.assign rfl rfl ?_
  refine W.nil ?_
  refine At.thenCode ?_
  refine C.seq ?_
  refine C.region ?_
  refine W.move rfl rfl ?_
  refine W.geqI rfl rfl rfl ?_
  refine W.move rfl rfl ?_
  first | refine W.splitD (fun g5 => ?_) (fun g5 => ?_) | refine W.splitB (fun g5 => ?_) (fun g5 => ?_)
  · refine W.wants rfl rfl rfl rfl ?_
    refine W.move rfl rfl ?_
    refine W.wants rfl rfl rfl rfl ?_
    refine W.leqI rfl rfl rfl ?_
    refine W.pickT rfl rfl rfl ?_
    refine W.assign rfl rfl ?_
    refine W.nil ?_
    refine At.thenCode ?_
    refine C.ret ?_
    refine At.ret1 Try.results55 rfl ?_
    refine ⟨?_, rfl⟩
    congr 1
    first | (rw [decide_eq_decide]; unfold okN; omega) | (symm; rw [decide_eq_false_iff_not]; unfold okN; omega) | (symm; rw [decide_eq_true_iff]; unfold okN; omega)
  · refine W.skips rfl rfl rfl rfl rfl rfl ?_
    refine W.skips rfl rfl rfl rfl rfl rfl ?_
    refine W.pickF rfl rfl rfl ?_
    refine W.assign rfl rfl ?_
    refine W.nil ?_
    refine At.thenCode ?_
    refine C.ret ?_
    refine At.ret1 Try.results55 rfl ?_
    refine ⟨?_, rfl⟩
    congr 1
    first | (rw [decide_eq_decide]; unfold okN; omega) | (symm; rw [decide_eq_false_iff_not]; unfold okN; omega) | (symm; rw [decide_eq_true_iff]; unfold okN; omega)
theorem chainsRight_ok (n : Int) (w : World) : Ct Try.prog 53 #[.int .i64 n] w (fun v w' => v = .bool (decide (okN n)) ∧ w = w') := by
  refine Ct.enter [(0, .int .i64 n)] Try.func53 rfl rfl rfl rfl ?_
  refine C.seq ?_
  refine C.region ?_
  refine W.assign rfl rfl ?_
  refine W.nil ?_
  refine At.thenCode ?_
  refine C.seq ?_
  refine C.region ?_
  refine W.move rfl rfl ?_
  refine W.geqI rfl rfl rfl ?_
  refine W.move rfl rfl ?_
  first | refine W.splitD (fun g5 => ?_) (fun g5 => ?_) | refine W.splitB (fun g5 => ?_) (fun g5 => ?_)
  · refine W.wants rfl rfl rfl rfl ?_
    refine W.move rfl rfl ?_
    refine W.wants rfl rfl rfl rfl ?_
    refine W.leqI rfl rfl rfl ?_
    refine W.pickT rfl rfl rfl ?_
    refine W.assign rfl rfl ?_
    refine W.nil ?_
    refine At.thenCode ?_
    refine C.ret ?_
    refine At.ret1 Try.results53 rfl ?_
    refine ⟨?_, rfl⟩
    congr 1
    first | (rw [decide_eq_decide]; unfold okN; omega) | (symm; rw [decide_eq_false_iff_not]; unfold okN; omega) | (symm; rw [decide_eq_true_iff]; unfold okN; omega)
  · refine W.skips rfl rfl rfl rfl rfl rfl ?_
    refine W.skips rfl rfl rfl rfl rfl rfl ?_
    refine W.pickF rfl rfl rfl ?_
    refine W.assign rfl rfl ?_
    refine W.nil ?_
    refine At.thenCode ?_
    refine C.ret ?_
    refine At.ret1 Try.results53 rfl ?_
    refine ⟨?_, rfl⟩
    congr 1
    first | (rw [decide_eq_decide]; unfold okN; omega) | (symm; rw [decide_eq_false_iff_not]; unfold okN; omega) | (symm; rw [decide_eq_true_iff]; unfold okN; omega)
theorem Sides_ok (n : Int) (w : World) (hn : -9223372036854775808 ≤ n ∧ n ≤ 9223372036854775807) : Ct Try.prog 37 #[.int .i64 n] w (fun v w' => v = .int .i64 (sidesN n : Int) ∧ w = w') := by
  refine Ct.enter [(0, .int .i64 n)] Try.func37 rfl rfl rfl rfl ?_
  refine C.seq ?_
  refine C.region ?_
  refine W.assign rfl rfl ?_
  refine W.nil ?_
  refine At.thenCode ?_
  refine C.seq ?_
  refine C.seq ?_
  refine C.region ?_
  refine W.move rfl rfl ?_
  refine W.call Try.call55 rfl (Sets.right_ok _ _) rfl ?_
  rintro v5 w5 ⟨rfl, rfl⟩
  first | refine W.notD rfl rfl ?_ | refine W.notB rfl rfl ?_
  refine W.nil ?_
  refine At.thenCode ?_
  first | refine C.condD rfl (fun c6 => ?_) (fun c6 => ?_) | refine C.cond rfl (fun c6 => ?_) (fun c6 => ?_)
  · have hno : ¬ okN n := by simpa using c6
    refine C.seq ?_
    refine C.region ?_
    refine W.assign rfl rfl ?_
    refine W.nil ?_
    refine At.thenCode ?_
    refine C.ret ?_
    refine At.thenRet ?_
    refine At.ret1 Try.results37 rfl ?_
    exact ⟨by unfold sidesN; rw [if_neg hno]; rfl, rfl⟩
  · have hok : okN n := by simpa using c6
    have hok' : 1 ≤ n ∧ n ≤ 1048576 := hok
    refine C.skip ?_
    refine At.thenCode ?_
    refine C.seq ?_
    refine C.region ?_
    refine W.move rfl rfl ?_
    first | refine W.mulI rfl rfl (by omega) rfl ?_ | refine W.mulW rfl rfl rfl ?_
    first | refine W.addI rfl rfl (by omega) rfl ?_ | refine W.addW rfl rfl rfl ?_
    refine W.call Try.call50 rfl (Sets.Root_ok _ _ (by omega)) rfl ?_
    rintro v10 w10 ⟨r, rfl, hr, hrl, rfl⟩
    first | refine W.subI rfl rfl (by omega) rfl ?_ | refine W.subW rfl rfl rfl ?_
    have hr0 : 1 ≤ r := by
      obtain ⟨_, h2⟩ := hr.2 (by omega)
      rcases Nat.eq_zero_or_pos r with c | c
      · exfalso; subst c; simp at h2; omega
      · exact c
    first | refine W.quoI rfl rfl (by omega) rfl ?_ | refine W.quoW rfl rfl (by omega) rfl ?_
    refine W.maxI rfl rfl rfl ?_
    obtain ⟨l0, hl0⟩ : ∃ l0 : Nat, (l0 : Int) = max 1 (((r : Int) - 1) / 2) := ⟨(max 1 (((r : Int) - 1) / 2)).toNat, by omega⟩
    rw [← hl0]
    obtain ⟨hs1, hs2⟩ := sides_start hok hr l0 hl0
    refine W.assign rfl rfl ?_
    refine W.nil ?_
    refine At.thenCode ?_
    refine C.seq ?_
    refine C.block ?_
    refine C.loop (X := Nat) (fun x_ => [(0, .int .i64 n), (3, .int .i64 (x_ : Int))]) (fun x_ w1 => w = w1 ∧ 1 ≤ x_ ∧ (x_ = 1 ∨ (tri x_ : Int) < n)) (fun x_ => 2000 - x_) (l0) (Sub.cons (rfl) (Sub.cons (rfl) (Sub.nil))) ?start1 ?_
    case start1 =>
      show w = _ ∧ 1 ≤ (l0) ∧ ((l0) = 1 ∨ (tri (l0) : Int) < n)
      exact ⟨rfl, hs1, hs2⟩
    rintro l w1 hI_
    replace hI_ : w = w1 ∧ 1 ≤ l ∧ (l = 1 ∨ (tri l : Int) < n) := hI_
    obtain ⟨rfl, hl1, hl2⟩ := hI_
    refine C.weaken (l' := [(0, .int .i64 n), (3, .int .i64 (l : Int))]) (Sub.cons (rfl) (Sub.cons (rfl) (Sub.nil))) ?_
    have hll := sides_le hok hl1 hl2
    have hhb := tri_hb (l := l) (by omega)
    refine C.seq ?_
    refine C.seq ?_
    refine C.region ?_
    refine W.move rfl rfl ?_
    refine W.move rfl rfl ?_
    first | refine W.addI rfl rfl (by omega) rfl ?_ | refine W.addW rfl rfl rfl ?_
    refine W.mulI rfl rfl (by omega) rfl ?_
    first | refine W.quoI rfl rfl (by omega) rfl ?_ | refine W.quoW rfl rfl (by omega) rfl ?_
    rw [tri_half]
    refine W.move rfl rfl ?_
    refine W.lssI rfl rfl rfl ?_
    refine W.nil ?_
    refine At.thenCode ?_
    first | refine C.condD rfl (fun c20 => ?_) (fun c20 => ?_) | refine C.cond rfl (fun c20 => ?_) (fun c20 => ?_)
    · refine C.skip ?_
      refine At.thenCode ?_
      refine C.block ?_
      refine C.region ?_
      refine W.move rfl rfl ?_
      first | refine W.addI rfl rfl (by omega) rfl ?_ | refine W.addW rfl rfl rfl ?_
      refine W.assign rfl rfl ?_
      refine W.nil ?_
      refine At.blockNormal ?_
      refine At.thenRound (l + 1) (Sub.cons (rfl) (Sub.cons (look_eq rfl (iV (by omega))) (Sub.nil))) (show w = _ ∧ 1 ≤ (l + 1) ∧ ((l + 1) = 1 ∨ (tri (l + 1) : Int) < n) from ?_) (show 2000 - (l + 1) < 2000 - l from ?_)
      · exact ⟨rfl, by omega, .inr (by omega)⟩
      · omega
    · refine C.exit ?_
      refine At.thenExit ?_
      refine At.thenExit ?_
      refine At.blockSelf ?_
      refine At.thenCode ?_
      refine C.seq ?_
      refine C.region ?_
      refine W.move rfl rfl ?_
      refine W.assign rfl rfl ?_
      refine W.nil ?_
      refine At.thenCode ?_
      refine C.ret ?_
      refine At.ret1 Try.results37 rfl ?_
      exact ⟨by rw [sides_uniq (sides_spec hok) ⟨hl1, by omega, hl2⟩], rfl⟩
theorem RSides_ok (n : Int) (w : World) (hn : -9223372036854775808 ≤ n ∧ n ≤ 9223372036854775807) : Ct Try.prog 38 #[.int .i64 n] w (fun v w' => v = .int .i64 (sidesN n : Int) ∧ w = w') := by
  refine Ct.enter [(0, .int .i64 n)] Try.func38 rfl rfl rfl rfl ?_
  refine C.seq ?_
  refine C.region ?_
  refine W.assign rfl rfl ?_
  refine W.nil ?_
  refine At.thenCode ?_
  refine C.seq ?_
  refine C.seq ?_
  refine C.region ?_
  refine W.move rfl rfl ?_
  refine W.call Try.call53 rfl (Sets.chainsRight_ok _ _) rfl ?_
  rintro v5 w5 ⟨rfl, rfl⟩
  first | refine W.notD rfl rfl ?_ | refine W.notB rfl rfl ?_
  refine W.nil ?_
  refine At.thenCode ?_
  first | refine C.condD rfl (fun c6 => ?_) (fun c6 => ?_) | refine C.cond rfl (fun c6 => ?_) (fun c6 => ?_)
  · refine C.seq ?_
    refine C.region ?_
    refine W.assign rfl rfl ?_
    refine W.nil ?_
    refine At.thenCode ?_
    refine C.ret ?_
    refine At.thenRet ?_
    refine At.ret1 Try.results38 rfl ?_
    exact ⟨by unfold sidesN; rw [if_neg (by first | (simpa using c6) | (simpa using c5))]; rfl, rfl⟩
  · refine C.skip ?_
    refine At.thenCode ?_
    refine C.seq ?_
    refine C.region ?_
    refine W.assign rfl rfl ?_
    refine W.nil ?_
    refine At.thenCode ?_
    refine C.seq ?_
    refine C.block ?_
    refine C.loop (X := Nat) (fun x_ => [(0, .int .i64 n), (3, .int .i64 (x_ : Int))]) (fun x_ w1 => w = w1 ∧ okN n ∧ 1 ≤ x_ ∧ (x_ = 1 ∨ (tri x_ : Int) < n)) (fun x_ => 2000 - x_) (1) (Sub.cons (rfl) (Sub.cons (rfl) (Sub.nil))) ?start1 ?_
    case start1 =>
      show w = _ ∧ okN n ∧ 1 ≤ (1) ∧ ((1) = 1 ∨ (tri (1) : Int) < n)
      exact ⟨rfl, (by first | (simpa using c6) | (simpa using c5)), by omega, .inl rfl⟩
    rintro l w1 hI_
    replace hI_ : w = w1 ∧ okN n ∧ 1 ≤ l ∧ (l = 1 ∨ (tri l : Int) < n) := hI_
    obtain ⟨rfl, hok, hl1, hl2⟩ := hI_
    refine C.weaken (l' := [(0, .int .i64 n), (3, .int .i64 (l : Int))]) (Sub.cons (rfl) (Sub.cons (rfl) (Sub.nil))) ?_
    have hll := sides_le hok hl1 hl2
    have hhb := tri_hb (l := l) (by omega)
    have hth := tri_half (l := l)
    refine C.seq ?_
    refine C.seq ?_
    refine C.region ?_
    refine W.move rfl rfl ?_
    refine W.move rfl rfl ?_
    first | refine W.addI rfl rfl (by omega) rfl ?_ | refine W.addW rfl rfl rfl ?_
    first | refine W.mulI rfl rfl (by omega) rfl ?_ | refine W.mulW rfl rfl rfl ?_
    first | refine W.quoI rfl rfl (by omega) rfl ?_ | refine W.quoW rfl rfl (by omega) rfl ?_
    refine W.move rfl rfl ?_
    refine W.lssI rfl rfl rfl ?_
    refine W.nil ?_
    refine At.thenCode ?_
    first | refine C.condD rfl (fun c13 => ?_) (fun c13 => ?_) | refine C.cond rfl (fun c13 => ?_) (fun c13 => ?_)
    · refine C.skip ?_
      refine At.thenCode ?_
      refine C.block ?_
      refine C.region ?_
      refine W.move rfl rfl ?_
      first | refine W.addI rfl rfl (by omega) rfl ?_ | refine W.addW rfl rfl rfl ?_
      refine W.assign rfl rfl ?_
      refine W.nil ?_
      refine At.blockNormal ?_
      refine At.thenRound (l + 1) (Sub.cons (rfl) (Sub.cons (look_eq rfl (iV (by omega))) (Sub.nil))) (show w = _ ∧ okN n ∧ 1 ≤ (l + 1) ∧ ((l + 1) = 1 ∨ (tri (l + 1) : Int) < n) from ?_) (show 2000 - (l + 1) < 2000 - l from ?_)
      · exact ⟨rfl, hok, by omega, .inr (by omega)⟩
      · omega
    · refine C.exit ?_
      refine At.thenExit ?_
      refine At.thenExit ?_
      refine At.blockSelf ?_
      refine At.thenCode ?_
      refine C.seq ?_
      refine C.region ?_
      refine W.move rfl rfl ?_
      refine W.assign rfl rfl ?_
      refine W.nil ?_
      refine At.thenCode ?_
      refine C.ret ?_
      refine At.ret1 Try.results38 rfl ?_
      exact ⟨by rw [sides_uniq (sides_spec hok) ⟨hl1, by omega, hl2⟩], rfl⟩
end Go.Proofs.Ytomfnficblnngaa.Sets
