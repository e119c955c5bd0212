/- The walks of package scalar, of what it calls of math/bits (by N alone), and of the reference's OfN. -/
import Derived.Test.YtlbbngcmhlknoaaModn
import Derived.Test.YtlbbngcmhlknoaaWords
import Derived.Test.YtlbbngcmhlknoaaKr
namespace Go.Proofs.Ytlbbngcmhlknoaa.Scal
open Go Go.RowKit Go.Proofs.Ytlbbngcmhlknoaa.KW Go.Proofs.Ytlbbngcmhlknoaa.Words Go.Proofs.Ytlbbngcmhlknoaa.Modp Go.Proofs.Ytlbbngcmhlknoaa.Modn
set_option linter.unusedVariables false
set_option linter.unusedSimpArgs false
set_option maxRecDepth 100000

theorem Len64_N (w : World) : Ct Try.prog 22 #[.int .u64 ((2305843009213693950 : Nat) : Int)] w (fun v w' => v = .int .i64 61 ∧ w = w') := by
  refine Ct.enter [(0, .int .u64 ((2305843009213693950 : Nat) : Int))] Try.func22 rfl rfl rfl rfl ?_
  refine C.seq ?_
  refine C.region ?_
  refine W.assign rfl rfl ?_
  refine W.nil ?_
  refine At.thenCode ?_
  refine C.seq ?_
  refine C.seq ?_
  refine C.region ?_
  refine W.move rfl rfl ?_
  refine W.geqU (n := 4294967296) rfl rfl rfl ?_
  refine W.eqv (bT (by decide)) ?_
  refine W.nil ?_
  refine At.thenCode ?_
  refine C.condT rfl ?_
  refine C.seq ?_
  refine C.region ?_
  refine W.move rfl rfl ?_
  refine W.shrU (B := 64) (s := 32) rfl rfl rfl rfl ?_
  refine W.assign rfl rfl ?_
  refine W.nil ?_
  refine At.thenCode ?_
  refine C.region ?_
  refine W.assign rfl rfl ?_
  refine W.nil ?_
  refine At.thenCode ?_
  refine C.seq ?_
  refine C.seq ?_
  refine C.region ?_
  refine W.move rfl rfl ?_
  refine W.geqU (n := 65536) rfl rfl rfl ?_
  refine W.eqv (bT (by decide)) ?_
  refine W.nil ?_
  refine At.thenCode ?_
  refine C.condT rfl ?_
  refine C.seq ?_
  refine C.region ?_
  refine W.move rfl rfl ?_
  refine W.shrU (B := 64) (s := 16) rfl rfl rfl rfl ?_
  refine W.assign rfl rfl ?_
  refine W.nil ?_
  refine At.thenCode ?_
  refine C.region ?_
  refine W.move rfl rfl ?_
  first | refine W.addI rfl rfl (by omega) rfl ?_ | refine W.addW rfl rfl rfl ?_
  refine W.assign rfl rfl ?_
  refine W.nil ?_
  refine At.thenCode ?_
  refine C.seq ?_
  refine C.seq ?_
  refine C.region ?_
  refine W.move rfl rfl ?_
  refine W.geqU (n := 256) rfl rfl rfl ?_
  refine W.eqv (bT (by decide)) ?_
  refine W.nil ?_
  refine At.thenCode ?_
  refine C.condT rfl ?_
  refine C.seq ?_
  refine C.region ?_
  refine W.move rfl rfl ?_
  refine W.shrU (B := 64) (s := 8) rfl rfl rfl rfl ?_
  refine W.assign rfl rfl ?_
  refine W.nil ?_
  refine At.thenCode ?_
  refine C.region ?_
  refine W.move rfl rfl ?_
  first | refine W.addI rfl rfl (by omega) rfl ?_ | refine W.addW rfl rfl rfl ?_
  refine W.assign rfl rfl ?_
  refine W.nil ?_
  refine At.thenCode ?_
  refine C.seq ?_
  refine C.region ?_
  refine W.move rfl rfl ?_
  refine W.move rfl rfl ?_
  refine W.convUU (M := 256) rfl Try.underlying22 Try.underlying5 rfl rfl rfl ?_
  refine W.indexStr 31 rfl Try.underlying9 rfl (by decide) (by decide) rfl ?_
  refine W.eqv (v' := .int .u8 5) (by rfl) ?_
  first | refine W.convI rfl Try.underlying5 Try.underlying3 (by omega) rfl ?_ | refine W.conv rfl Try.underlying5 Try.underlying3 rfl ?_
  first | refine W.addI rfl rfl (by omega) rfl ?_ | refine W.addW rfl rfl rfl ?_
  refine W.assign rfl rfl ?_
  refine W.nil ?_
  refine At.thenCode ?_
  refine C.ret ?_
  refine At.ret1 Try.results22 rfl ?_
  exact ⟨rfl, rfl⟩
theorem LeadingZeros64_N (w : World) : Ct Try.prog 21 #[.int .u64 ((2305843009213693950 : Nat) : Int)] w (fun v w' => v = .int .i64 3 ∧ w = w') := by
  refine Ct.enter [(0, .int .u64 ((2305843009213693950 : Nat) : Int))] Try.func21 rfl rfl rfl rfl ?_
  refine C.seq ?_
  refine C.region ?_
  refine W.assign rfl rfl ?_
  refine W.nil ?_
  refine At.thenCode ?_
  refine C.seq ?_
  refine C.region ?_
  refine W.move rfl rfl ?_
  refine W.call Try.call22 rfl (Len64_N _) rfl ?_
  rintro v w' ⟨rfl, rfl⟩
  first | refine W.subI rfl rfl (by omega) rfl ?_ | refine W.subW rfl rfl rfl ?_
  refine W.assign rfl rfl ?_
  refine W.nil ?_
  refine At.thenCode ?_
  refine C.ret ?_
  refine At.ret1 Try.results21 rfl ?_
  exact ⟨rfl, rfl⟩

/-! ### Dividing by N, by halves -/
theorem or8 (h l : Nat) (hh : h < 2305843009213693950) (hl : l < 18446744073709551616) : iorM 18446744073709551616 (shlM 18446744073709551616 64 h 3) (shrM 64 l 61) = h * 8 + l / 2305843009213693952 := by
  rw [shr61, shl3 (by omega), iorM, show h * 8 = h * 2 ^ 3 from rfl, or_low _ _ 3 (by omega)]
  omega
theorem q_start {u m : Nat} (hm : m < 4294967296) (hu : u < 18446744073709551600) : 4294967295 * (u / 4294967295) + u % 4294967295 = u ∧ u / 4294967295 ≤ 4294967296 ∧ u % 4294967295 < 4294967296 ∧ 4294967296 * u + m < 18446744073709551600 * (u / 4294967295) + 18446744073709551600 := by
  refine ⟨by omega, by omega, by omega, by omega⟩
theorem q_step {u q r m : Nat} (h1 : 4294967295 * q + r = u) (hq : q ≤ 4294967296) (hr : r < 4294967296) (hm : m < 4294967296) (hu : u < 18446744073709551600) (hc : 4294967296 ≤ q ∨ 4294967296 * r + m < 4294967280 * q) :
    0 < q ∧ 4294967295 * (q - 1) + (r + 4294967295) = u ∧ 4294967296 * u + m < 18446744073709551600 * (q - 1) + 18446744073709551600 := by
  have h0 : 0 < q := by omega
  obtain ⟨p, hp⟩ : ∃ p, q = p + 1 := ⟨q - 1, by omega⟩
  rw [show q - 1 = p by omega]
  refine ⟨h0, by omega, ?_⟩
  rcases hc with h | h <;> omega
theorem q_end {u q r m : Nat} (h1 : 4294967295 * q + r = u) (hq : q ≤ 4294967296) (hc : 4294967296 ≤ r ∨ (q < 4294967296 ∧ 4294967280 * q ≤ 4294967296 * r + m)) :
    18446744073709551600 * q ≤ 4294967296 * u + m := by
  rcases hc with h | h <;> omega
theorem div_fin (h l u q1 q0 n1 n0: Nat) (hh : h < 2305843009213693950) (hl : l < 18446744073709551616) (hn : 4294967296 * n1 + n0 = 8 * l % 18446744073709551616)
    (hu : u + 18446744073709551600 * q1 = 4294967296 * (8 * h + l / 2305843009213693952) + n1)
    (h0 : 18446744073709551600 * q0 ≤ 4294967296 * u + n0) (h1 : 4294967296 * u + n0 < 18446744073709551600 * q0 + 18446744073709551600) :
    (4294967296 * u + n0 - 18446744073709551600 * q0) / 8 = (18446744073709551616 * h + l) % 2305843009213693950 := by
  have e2 : 4294967296 * u + n0 - 18446744073709551600 * q0 + 18446744073709551600 * (4294967296 * q1 + q0) = 8 * (18446744073709551616 * h + l) := by omega
  generalize 4294967296 * q1 + q0 = q at *
  generalize 18446744073709551616 * h + l = X at *
  have h2 : 4294967296 * u + n0 - 18446744073709551600 * q0 < 18446744073709551600 := by omega
  generalize 4294967296 * u + n0 - 18446744073709551600 * q0 = R at *
  have h3 : X = R / 8 + 2305843009213693950 * q := by omega
  rw [h3, Nat.add_mul_mod_self_left, Nat.mod_eq_of_lt]
  omega
theorem mul64c {m n : Nat} (h : n * m < 18446744073709551616) : mulM 18446744073709551616 m n = n * m := by rw [mul64 (by rw [Nat.mul_comm]; exact h), Nat.mul_comm]
theorem un_eq {u q m : Nat} (h0 : 18446744073709551600 * q ≤ 4294967296 * u + m) (h1 : 4294967296 * u + m < 18446744073709551600 * q + 18446744073709551600) :
    subM 18446744073709551616 (addM 18446744073709551616 (mulM 18446744073709551616 u 4294967296) m) (mulM 18446744073709551616 q 18446744073709551600) = 4294967296 * u + m - 18446744073709551600 * q := by
  unfold subM addM mulM
  rw [Nat.mul_comm u, Nat.mul_comm q]
  omega
theorem Div64_N (h l : Nat) (hh : h < 2305843009213693950) (hl : l < 18446744073709551616) (w : World) :
    Ct Try.prog 20 #[.int .u64 (h : Int), .int .u64 (l : Int), .int .u64 ((2305843009213693950 : Nat) : Int)] w (fun v w' => (∃ q : Nat, v = .tuple #[.int .u64 (q : Int), .int .u64 (((h * 18446744073709551616 + l) % 2305843009213693950 : Nat) : Int)]) ∧ Ext w w') := by
  refine Ct.enter [(0, .int .u64 (h : Int)), (1, .int .u64 (l : Int)), (2, .int .u64 ((2305843009213693950 : Nat) : Int))] Try.func20 rfl rfl rfl rfl ?_
  refine C.seq ?_
  refine C.region ?_
  refine W.assign rfl rfl ?_
  refine W.assign rfl rfl ?_
  refine W.nil ?_
  refine At.thenCode ?_
  refine C.seq ?_
  refine C.seq ?_
  refine C.region ?_
  refine W.move rfl rfl ?_
  refine W.eqlU (n := 0) rfl rfl rfl ?_
  refine W.eqv (bF (by decide)) ?_
  refine W.nil ?_
  refine At.thenCode ?_
  refine C.condF rfl ?_
  refine C.skip ?_
  refine At.thenCode ?_
  refine C.seq ?_
  refine C.seq ?_
  refine C.region ?_
  refine W.move rfl rfl ?_
  refine W.move rfl rfl ?_
  refine W.leqU rfl rfl rfl ?_
  refine W.eqv (bF (by omega)) ?_
  refine W.nil ?_
  refine At.thenCode ?_
  refine C.condF rfl ?_
  refine C.skip ?_
  refine At.thenCode ?_
  refine C.seq ?_
  refine C.seq ?_
  refine C.region ?_
  refine W.move rfl rfl ?_
  refine W.eqlU (n := 0) rfl rfl rfl ?_
  refine W.nil ?_
  refine At.thenCode ?_
  first | refine C.condD rfl (fun c27 => ?_) (fun c27 => ?_) | refine C.cond rfl (fun c27 => ?_) (fun c27 => ?_)
  · refine C.seq ?_
    refine C.regionAny ((fun v w => v = .int .u64 (l : Int)) :: (fun v w => v = .int .u64 ((2305843009213693950 : Nat) : Int)) :: (fun v w => v = .int .u64 ((quoM 18446744073709551616 l 2305843009213693950 : Nat) : Int)) :: (fun v w => v = .int .u64 (l : Int)) :: (fun v w => v = .int .u64 ((2305843009213693950 : Nat) : Int)) :: (fun v w => v = .int .u64 ((l % 2305843009213693950 : Nat) : Int)) :: (fun v w => v = .int .u64 ((quoM 18446744073709551616 l 2305843009213693950 : Nat) : Int)) :: (fun v w => v = .int .u64 ((l % 2305843009213693950 : Nat) : Int)) :: []) [(1, .int .u64 (l : Int)), (2, .int .u64 ((2305843009213693950 : Nat) : Int))] [] (Sub.cons (rfl) (Sub.cons (rfl) (Sub.nil))) (Sub.nil) (Sub.cons (rfl) (Sub.cons (rfl) (Sub.nil))) (by kernel_rfl) rfl rfl (And.intro (fun _ _ _ h _ => h) (And.intro (fun _ _ _ h _ => h) (And.intro (fun _ _ _ h _ => h) (And.intro (fun _ _ _ h _ => h) (And.intro (fun _ _ _ h _ => h) (And.intro (fun _ _ _ h _ => h) (And.intro (fun _ _ _ h _ => h) (And.intro (fun _ _ _ h _ => h) (trivial))))))))) ?_ ?_
    · refine And.intro ?_ ?_
      · intro L_ w6 hX_ hs_ hf_ hd_
        refine W.step [(1, _)] (Sub.cons (hs_ _ _ rfl) (Sub.refl _)) ?_
        refine W.move rfl rfl ?_
        refine W.nil ?_
        exact At.step (Ext.refl _) rfl
      refine And.intro ?_ ?_
      · intro L_ w6 hX_ hs_ hf_ hd_
        refine W.step [(2, _)] (Sub.cons (hs_ _ _ rfl) (Sub.refl _)) ?_
        refine W.move rfl rfl ?_
        refine W.nil ?_
        exact At.step (Ext.refl _) rfl
      refine And.intro ?_ ?_
      · intro L_ w6 hX_ hs_ hf_ hd_
        obtain ⟨v0, e0, r0⟩ := hd_ 0 rfl
        obtain rfl : v0 = .int .u64 (l : Int) := r0
        obtain ⟨v1, e1, r1⟩ := hd_ 1 rfl
        obtain rfl : v1 = .int .u64 ((2305843009213693950 : Nat) : Int) := r1
        refine W.step [(28, _), (29, _)] (Sub.cons e0 (Sub.cons e1 (Sub.refl _))) ?_
        refine W.quoU (M := 18446744073709551616) rfl rfl (by omega) rfl rfl rfl ?_
        refine W.nil ?_
        exact At.step (Ext.refl _) rfl
      refine And.intro ?_ ?_
      · intro L_ w6 hX_ hs_ hf_ hd_
        refine W.step [(1, _)] (Sub.cons (hs_ _ _ rfl) (Sub.refl _)) ?_
        refine W.move rfl rfl ?_
        refine W.nil ?_
        exact At.step (Ext.refl _) rfl
      refine And.intro ?_ ?_
      · intro L_ w6 hX_ hs_ hf_ hd_
        refine W.step [(2, _)] (Sub.cons (hs_ _ _ rfl) (Sub.refl _)) ?_
        refine W.move rfl rfl ?_
        refine W.nil ?_
        exact At.step (Ext.refl _) rfl
      refine And.intro ?_ ?_
      · intro L_ w6 hX_ hs_ hf_ hd_
        obtain ⟨v3, e3, r3⟩ := hd_ 3 rfl
        obtain rfl : v3 = .int .u64 (l : Int) := r3
        obtain ⟨v4, e4, r4⟩ := hd_ 4 rfl
        obtain rfl : v4 = .int .u64 ((2305843009213693950 : Nat) : Int) := r4
        refine W.step [(31, _), (32, _)] (Sub.cons e3 (Sub.cons e4 (Sub.refl _))) ?_
        refine W.remU rfl rfl (by omega) rfl ?_
        refine W.nil ?_
        exact At.step (Ext.refl _) rfl
      refine And.intro ?_ ?_
      · intro L_ w6 hX_ hs_ hf_ hd_
        obtain ⟨v2, e2, r2⟩ := hd_ 2 rfl
        obtain rfl : v2 = .int .u64 ((quoM 18446744073709551616 l 2305843009213693950 : Nat) : Int) := r2
        refine W.step [(30, _)] (Sub.cons e2 (Sub.refl _)) ?_
        refine W.assign rfl rfl ?_
        refine W.nil ?_
        exact At.step (Ext.refl _) rfl
      refine And.intro ?_ ?_
      · intro L_ w6 hX_ hs_ hf_ hd_
        obtain ⟨v5, e5, r5⟩ := hd_ 5 rfl
        obtain rfl : v5 = .int .u64 ((l % 2305843009213693950 : Nat) : Int) := r5
        refine W.step [(33, _)] (Sub.cons e5 (Sub.refl _)) ?_
        refine W.assign rfl rfl ?_
        refine W.nil ?_
        exact At.step (Ext.refl _) rfl
      exact trivial
    · intro L_ w6 hX6 hs_ hv_
      obtain ⟨v6, e6, r6⟩ := hv_ 6 (by decide)
      obtain rfl : v6 = .int .u64 ((quoM 18446744073709551616 l 2305843009213693950 : Nat) : Int) := r6
      obtain ⟨v7, e7, r7⟩ := hv_ 7 (by decide)
      obtain rfl : v7 = .int .u64 ((l % 2305843009213693950 : Nat) : Int) := r7
      refine At.weaken (l' := [(6, _), (7, _), (1, _), (2, _)]) (Sub.cons e6 (Sub.cons e7 (Sub.cons (hs_ _ _ rfl) (Sub.cons (hs_ _ _ rfl) (Sub.nil))))) ?_
      refine At.thenCode ?_
      refine C.ret ?_
      refine At.thenRet ?_
      refine At.ret2 Try.results20 rfl rfl ?_
      exact ⟨⟨_, by rw [c27, Nat.zero_mul, Nat.zero_add]⟩, hX6⟩
  · refine C.skip ?_
    refine At.thenCode ?_
    refine C.seq ?_
    refine C.region ?_
    refine W.move rfl rfl ?_
    refine W.call Try.call21 rfl (LeadingZeros64_N _) rfl ?_
    rintro v w' ⟨rfl, rfl⟩
    first | refine W.convIN (M := 18446744073709551616) rfl Try.underlying3 Try.underlying28 rfl rfl (by omega) rfl ?_ | refine W.convIU (M := 18446744073709551616) rfl Try.underlying3 Try.underlying28 rfl rfl rfl ?_
    refine W.eqv (v' := .int .u64 ((3 : Nat) : Int)) rfl ?_
    refine W.assign rfl rfl ?_
    refine W.nil ?_
    refine At.thenCode ?_
    refine C.seq ?_
    refine C.region ?_
    refine W.move rfl rfl ?_
    refine W.move rfl rfl ?_
    refine W.shlU (M := 18446744073709551616) (B := 64) rfl rfl rfl rfl rfl rfl ?_
    refine W.eqv (v' := .int .u64 ((18446744073709551600 : Nat) : Int)) rfl ?_
    refine W.assign rfl rfl ?_
    refine W.nil ?_
    refine At.thenCode ?_
    refine C.seq ?_
    refine C.region ?_
    refine W.move rfl rfl ?_
    refine W.shrU (B := 64) (s := 32) rfl rfl rfl rfl ?_
    refine W.eqv (v' := .int .u64 ((4294967295 : Nat) : Int)) rfl ?_
    refine W.assign rfl rfl ?_
    refine W.nil ?_
    refine At.thenCode ?_
    refine C.seq ?_
    refine C.region ?_
    refine W.move rfl rfl ?_
    refine W.andU (M := 18446744073709551616) (n := 4294967295) rfl rfl rfl rfl rfl ?_
    refine W.eqv (v' := .int .u64 ((4294967280 : Nat) : Int)) rfl ?_
    refine W.assign rfl rfl ?_
    refine W.nil ?_
    refine At.thenCode ?_
    refine C.seq ?_
    refine C.region ?_
    refine W.move rfl rfl ?_
    refine W.move rfl rfl ?_
    refine W.shlU (M := 18446744073709551616) (B := 64) rfl rfl rfl rfl rfl rfl ?_
    refine W.move rfl rfl ?_
    refine W.move rfl rfl ?_
    refine W.subU (M := 18446744073709551616) (m := 64) rfl rfl rfl rfl rfl ?_
    refine W.eqv (v' := .int .u64 ((61 : Nat) : Int)) rfl ?_
    refine W.shrU (B := 64) rfl rfl rfl rfl ?_
    refine W.orU (M := 18446744073709551616) rfl rfl rfl rfl rfl ?_
    rw [or8 h l hh hl]
    generalize hu : h * 8 + l / 2305843009213693952 = u
    refine W.assign rfl rfl ?_
    refine W.nil ?_
    refine At.thenCode ?_
    refine C.seq ?_
    refine C.region ?_
    refine W.move rfl rfl ?_
    refine W.move rfl rfl ?_
    refine W.shlU (M := 18446744073709551616) (B := 64) rfl rfl rfl rfl rfl rfl ?_
    refine W.eqv (v' := .int .u64 ((l * 8 % 18446744073709551616 : Nat) : Int)) rfl ?_
    generalize hm : l * 8 % 18446744073709551616 = m
    refine W.assign rfl rfl ?_
    refine W.nil ?_
    refine At.thenCode ?_
    refine C.seq ?_
    refine C.region ?_
    refine W.move rfl rfl ?_
    refine W.shrU (B := 64) (s := 32) rfl rfl rfl rfl ?_
    rw [shr32_64]
    refine W.assign rfl rfl ?_
    refine W.nil ?_
    refine At.thenCode ?_
    refine C.seq ?_
    refine C.region ?_
    refine W.move rfl rfl ?_
    refine W.andU (M := 18446744073709551616) (n := 4294967295) rfl rfl rfl rfl rfl ?_
    rw [and32_64]
    obtain ⟨m1, hm1⟩ : ∃ m1, m1 = m / 4294967296 := ⟨_, rfl⟩
    obtain ⟨m0, hm0⟩ : ∃ m0, m0 = m % 4294967296 := ⟨_, rfl⟩
    rw [← hm1, ← hm0]
    have hul : u < 18446744073709551600 := by omega
    have hm1l : m1 < 4294967296 := by omega
    have hm0l : m0 < 4294967296 := by omega
    refine W.assign rfl rfl ?_
    refine W.nil ?_
    refine At.thenCode ?_
    refine C.seq ?_
    refine C.region ?_
    refine W.move rfl rfl ?_
    refine W.move rfl rfl ?_
    refine W.quoU (M := 18446744073709551616) rfl rfl (by omega) rfl rfl rfl ?_
    refine W.eqv (v' := .int .u64 ((u / 4294967295 : Nat) : Int)) (by unfold quoM; congr 2; omega) ?_
    refine W.assign rfl rfl ?_
    refine W.nil ?_
    refine At.thenCode ?_
    refine C.seq ?_
    refine C.region ?_
    refine W.move rfl rfl ?_
    refine W.move rfl rfl ?_
    refine W.move rfl rfl ?_
    refine W.mulU (M := 18446744073709551616) rfl rfl rfl rfl rfl ?_
    refine W.subU (M := 18446744073709551616) rfl rfl rfl rfl rfl ?_
    refine W.eqv (v' := .int .u64 ((u % 4294967295 : Nat) : Int)) (by rw [mul64c (by omega), sub64 (by omega) (by omega)]; congr 2; omega) ?_
    refine W.assign rfl rfl ?_
    refine W.nil ?_
    refine At.thenCode ?_
    refine C.seqMid (X := Nat) (fun x_ => [(2, .int .u64 ((18446744073709551600 : Nat) : Int)), (8, .int .u64 ((3 : Nat) : Int)), (9, .int .u64 ((4294967295 : Nat) : Int)), (10, .int .u64 ((4294967280 : Nat) : Int)), (11, .int .u64 (u : Int)), (13, .int .u64 (m1 : Int)), (14, .int .u64 (m0 : Int)), (15, .int .u64 (x_ : Int))]) (fun x_ wm1 => w = wm1 ∧ 18446744073709551600 * x_ ≤ 4294967296 * u + m1 ∧ 4294967296 * u + m1 < 18446744073709551600 * x_ + 18446744073709551600) ?_ ?_
    · refine C.block ?_
      refine C.loop (X := Nat × Nat) (fun x_ => [(2, .int .u64 ((18446744073709551600 : Nat) : Int)), (8, .int .u64 ((3 : Nat) : Int)), (9, .int .u64 ((4294967295 : Nat) : Int)), (10, .int .u64 ((4294967280 : Nat) : Int)), (11, .int .u64 (u : Int)), (13, .int .u64 (m1 : Int)), (14, .int .u64 (m0 : Int)), (15, .int .u64 (x_.1 : Int)), (16, .int .u64 (x_.2 : Int))]) (fun x_ w1 => w = w1 ∧ 4294967295 * x_.1 + x_.2 = u ∧ x_.1 ≤ 4294967296 ∧ x_.2 < 4294967296 ∧ 4294967296 * u + m1 < 18446744073709551600 * x_.1 + 18446744073709551600) (fun x_ => x_.1) (u / 4294967295, u % 4294967295) (Sub.cons (rfl) (Sub.cons (rfl) (Sub.cons (rfl) (Sub.cons (rfl) (Sub.cons (rfl) (Sub.cons (rfl) (Sub.cons (rfl) (Sub.cons (rfl) (Sub.cons (rfl) (Sub.nil)))))))))) ?start1 ?_
      case start1 =>
        show w = _ ∧ 4294967295 * (u / 4294967295) + (u % 4294967295) = u ∧ (u / 4294967295) ≤ 4294967296 ∧ (u % 4294967295) < 4294967296 ∧ 4294967296 * u + m1 < 18446744073709551600 * (u / 4294967295) + 18446744073709551600
        have := q_start (u := u) (m := m1) (by omega) (by omega); exact ⟨rfl, this.1, this.2.1, this.2.2.1, this.2.2.2⟩
      rintro ⟨q, r⟩ w1 hI_
      replace hI_ : w = w1 ∧ 4294967295 * q + r = u ∧ q ≤ 4294967296 ∧ r < 4294967296 ∧ 4294967296 * u + m1 < 18446744073709551600 * q + 18446744073709551600 := hI_
      obtain ⟨rfl, hq1, hq2, hq3, hq4⟩ := hI_
      refine C.weaken (l' := [(2, .int .u64 ((18446744073709551600 : Nat) : Int)), (8, .int .u64 ((3 : Nat) : Int)), (9, .int .u64 ((4294967295 : Nat) : Int)), (10, .int .u64 ((4294967280 : Nat) : Int)), (11, .int .u64 (u : Int)), (13, .int .u64 (m1 : Int)), (14, .int .u64 (m0 : Int)), (15, .int .u64 (q : Int)), (16, .int .u64 (r : Int))]) (Sub.cons (rfl) (Sub.cons (rfl) (Sub.cons (rfl) (Sub.cons (rfl) (Sub.cons (rfl) (Sub.cons (rfl) (Sub.cons (rfl) (Sub.cons (rfl) (Sub.cons (rfl) (Sub.nil)))))))))) ?_
      refine C.seq ?_
      refine C.seq ?_
      refine C.region ?_
      refine W.move rfl rfl ?_
      refine W.geqU (n := 4294967296) rfl rfl rfl ?_
      refine W.move rfl rfl ?_
      first | refine W.splitD (fun g69 => ?_) (fun g69 => ?_) | refine W.splitB (fun g69 => ?_) (fun g69 => ?_)
      · have hst := q_step (m := m1) hq1 hq2 hq3 (by omega) (by omega) (Or.inl g69)
        refine W.skips rfl rfl rfl rfl rfl rfl ?_
        refine W.skips rfl rfl rfl rfl rfl rfl ?_
        refine W.skips rfl rfl rfl rfl rfl rfl ?_
        refine W.skips rfl rfl rfl rfl rfl rfl ?_
        refine W.skips rfl rfl rfl rfl rfl rfl ?_
        refine W.skips rfl rfl rfl rfl rfl rfl ?_
        refine W.skips rfl rfl rfl rfl rfl rfl ?_
        refine W.skips rfl rfl rfl rfl rfl rfl ?_
        refine W.pickT rfl rfl rfl ?_
        refine W.nil ?_
        refine At.thenCode ?_
        refine C.condT rfl ?_
        refine C.skip ?_
        refine At.thenCode ?_
        refine C.block ?_
        refine C.seq ?_
        refine C.region ?_
        refine W.move rfl rfl ?_
        refine W.subU (M := 18446744073709551616) (n := 1) rfl rfl rfl rfl rfl ?_
        rw [sub64 (by omega) (by omega)]
        refine W.assign rfl rfl ?_
        refine W.nil ?_
        refine At.thenCode ?_
        refine C.seq ?_
        refine C.region ?_
        refine W.move rfl rfl ?_
        refine W.move rfl rfl ?_
        refine W.addU (M := 18446744073709551616) rfl rfl rfl rfl rfl ?_
        rw [add64 (by omega)]
        refine W.assign rfl rfl ?_
        refine W.nil ?_
        refine At.thenCode ?_
        refine C.seq ?_
        refine C.region ?_
        refine W.move rfl rfl ?_
        refine W.geqU (n := 4294967296) rfl rfl rfl ?_
        refine W.nil ?_
        refine At.thenCode ?_
        first | refine C.condD rfl (fun c85 => ?_) (fun c85 => ?_) | refine C.cond rfl (fun c85 => ?_) (fun c85 => ?_)
        · refine C.exit ?_
          refine At.blockOther rfl ?_
          refine At.thenExit ?_
          refine At.blockSelf ?_
          refine At.thenMid (q - 1) (Sub.cons (rfl) (Sub.cons (rfl) (Sub.cons (rfl) (Sub.cons (rfl) (Sub.cons (rfl) (Sub.cons (rfl) (Sub.cons (rfl) (Sub.cons (rfl) (Sub.nil))))))))) (show w = _ ∧ 18446744073709551600 * (q - 1) ≤ 4294967296 * u + m1 ∧ 4294967296 * u + m1 < 18446744073709551600 * (q - 1) + 18446744073709551600 from ?_)
          have := q_end (m := m1) hst.2.1 (by omega) (Or.inl (by omega))
          exact ⟨rfl, this, hst.2.2⟩
        · refine C.skip ?_
          refine At.blockNormal ?_
          refine At.thenRound (q - 1, r + 4294967295) (Sub.cons (rfl) (Sub.cons (rfl) (Sub.cons (rfl) (Sub.cons (rfl) (Sub.cons (rfl) (Sub.cons (rfl) (Sub.cons (rfl) (Sub.cons (rfl) (Sub.cons (rfl) (Sub.nil)))))))))) (show w = _ ∧ 4294967295 * (q - 1) + (r + 4294967295) = u ∧ (q - 1) ≤ 4294967296 ∧ (r + 4294967295) < 4294967296 ∧ 4294967296 * u + m1 < 18446744073709551600 * (q - 1) + 18446744073709551600 from ?_) (show (q - 1) < q from ?_)
          · exact ⟨rfl, hst.2.1, by omega, by omega, hst.2.2⟩
          · omega
      · refine W.wants rfl rfl rfl rfl ?_
        refine W.move rfl rfl ?_
        refine W.wants rfl rfl rfl rfl ?_
        refine W.move rfl rfl ?_
        refine W.wants rfl rfl rfl rfl ?_
        refine W.mulU (M := 18446744073709551616) rfl rfl rfl rfl rfl ?_
        rw [mul64c (by omega)]
        refine W.wants rfl rfl rfl rfl ?_
        refine W.move rfl rfl ?_
        refine W.wants rfl rfl rfl rfl ?_
        refine W.mulU (M := 18446744073709551616) (m := 4294967296) rfl rfl rfl rfl rfl ?_
        refine W.wants rfl rfl rfl rfl ?_
        refine W.move rfl rfl ?_
        refine W.wants rfl rfl rfl rfl ?_
        refine W.addU (M := 18446744073709551616) rfl rfl rfl rfl rfl ?_
        rw [mul64 (m := 4294967296) (by omega), add64 (by omega)]
        refine W.wants rfl rfl rfl rfl ?_
        refine W.gtrU rfl rfl rfl ?_
        refine W.pickF rfl rfl rfl ?_
        refine W.nil ?_
        refine At.thenCode ?_
        first | refine C.condD rfl (fun c78 => ?_) (fun c78 => ?_) | refine C.cond rfl (fun c78 => ?_) (fun c78 => ?_)
        · have hst := q_step (m := m1) hq1 hq2 hq3 (by omega) (by omega) (Or.inr c78)
          refine C.skip ?_
          refine At.thenCode ?_
          refine C.block ?_
          refine C.seq ?_
          refine C.region ?_
          refine W.move rfl rfl ?_
          refine W.subU (M := 18446744073709551616) (n := 1) rfl rfl rfl rfl rfl ?_
          rw [sub64 (by omega) (by omega)]
          refine W.assign rfl rfl ?_
          refine W.nil ?_
          refine At.thenCode ?_
          refine C.seq ?_
          refine C.region ?_
          refine W.move rfl rfl ?_
          refine W.move rfl rfl ?_
          refine W.addU (M := 18446744073709551616) rfl rfl rfl rfl rfl ?_
          rw [add64 (by omega)]
          refine W.assign rfl rfl ?_
          refine W.nil ?_
          refine At.thenCode ?_
          refine C.seq ?_
          refine C.region ?_
          refine W.move rfl rfl ?_
          refine W.geqU (n := 4294967296) rfl rfl rfl ?_
          refine W.nil ?_
          refine At.thenCode ?_
          first | refine C.condD rfl (fun c85 => ?_) (fun c85 => ?_) | refine C.cond rfl (fun c85 => ?_) (fun c85 => ?_)
          · refine C.exit ?_
            refine At.blockOther rfl ?_
            refine At.thenExit ?_
            refine At.blockSelf ?_
            refine At.thenMid (q - 1) (Sub.cons (rfl) (Sub.cons (rfl) (Sub.cons (rfl) (Sub.cons (rfl) (Sub.cons (rfl) (Sub.cons (rfl) (Sub.cons (rfl) (Sub.cons (rfl) (Sub.nil))))))))) (show w = _ ∧ 18446744073709551600 * (q - 1) ≤ 4294967296 * u + m1 ∧ 4294967296 * u + m1 < 18446744073709551600 * (q - 1) + 18446744073709551600 from ?_)
            have := q_end (m := m1) hst.2.1 (by omega) (Or.inl (by omega))
            exact ⟨rfl, this, hst.2.2⟩
          · refine C.skip ?_
            refine At.blockNormal ?_
            refine At.thenRound (q - 1, r + 4294967295) (Sub.cons (rfl) (Sub.cons (rfl) (Sub.cons (rfl) (Sub.cons (rfl) (Sub.cons (rfl) (Sub.cons (rfl) (Sub.cons (rfl) (Sub.cons (rfl) (Sub.cons (rfl) (Sub.nil)))))))))) (show w = _ ∧ 4294967295 * (q - 1) + (r + 4294967295) = u ∧ (q - 1) ≤ 4294967296 ∧ (r + 4294967295) < 4294967296 ∧ 4294967296 * u + m1 < 18446744073709551600 * (q - 1) + 18446744073709551600 from ?_) (show (q - 1) < q from ?_)
            · exact ⟨rfl, hst.2.1, by omega, by omega, hst.2.2⟩
            · omega
        · refine C.exit ?_
          refine At.thenExit ?_
          refine At.thenExit ?_
          refine At.blockSelf ?_
          refine At.thenMid (q) (Sub.cons (rfl) (Sub.cons (rfl) (Sub.cons (rfl) (Sub.cons (rfl) (Sub.cons (rfl) (Sub.cons (rfl) (Sub.cons (rfl) (Sub.cons (rfl) (Sub.nil))))))))) (show w = _ ∧ 18446744073709551600 * (q) ≤ 4294967296 * u + m1 ∧ 4294967296 * u + m1 < 18446744073709551600 * (q) + 18446744073709551600 from ?_)
          have := q_end (m := m1) hq1 hq2 (Or.inr ⟨by omega, by omega⟩)
          exact ⟨rfl, this, hq4⟩
    · rintro q1 wm1 hI_
      replace hI_ : w = wm1 ∧ 18446744073709551600 * q1 ≤ 4294967296 * u + m1 ∧ 4294967296 * u + m1 < 18446744073709551600 * q1 + 18446744073709551600 := hI_
      obtain ⟨rfl, hz1, hy1⟩ := hI_
      refine C.weaken (l' := [(2, .int .u64 ((18446744073709551600 : Nat) : Int)), (8, .int .u64 ((3 : Nat) : Int)), (9, .int .u64 ((4294967295 : Nat) : Int)), (10, .int .u64 ((4294967280 : Nat) : Int)), (11, .int .u64 (u : Int)), (13, .int .u64 (m1 : Int)), (14, .int .u64 (m0 : Int)), (15, .int .u64 (q1 : Int))]) (Sub.cons (rfl) (Sub.cons (rfl) (Sub.cons (rfl) (Sub.cons (rfl) (Sub.cons (rfl) (Sub.cons (rfl) (Sub.cons (rfl) (Sub.cons (rfl) (Sub.nil))))))))) ?_
      refine C.seq ?_
      refine C.region ?_
      refine W.move rfl rfl ?_
      refine W.mulU (M := 18446744073709551616) (n := 4294967296) rfl rfl rfl rfl rfl ?_
      refine W.move rfl rfl ?_
      refine W.addU (M := 18446744073709551616) rfl rfl rfl rfl rfl ?_
      refine W.move rfl rfl ?_
      refine W.move rfl rfl ?_
      refine W.mulU (M := 18446744073709551616) rfl rfl rfl rfl rfl ?_
      refine W.subU (M := 18446744073709551616) rfl rfl rfl rfl rfl ?_
      rw [un_eq hz1 hy1]
      have hy2 : 4294967296 * u + m1 - 18446744073709551600 * q1 + 18446744073709551600 * q1 = 4294967296 * u + m1 := by omega
      generalize 4294967296 * u + m1 - 18446744073709551600 * q1 = y at hy2 ⊢
      have hyl : y < 18446744073709551600 := by omega
      refine W.assign rfl rfl ?_
      refine W.nil ?_
      refine At.thenCode ?_
      refine C.seq ?_
      refine C.region ?_
      refine W.move rfl rfl ?_
      refine W.move rfl rfl ?_
      refine W.quoU (M := 18446744073709551616) rfl rfl (by omega) rfl rfl rfl ?_
      refine W.eqv (v' := .int .u64 ((y / 4294967295 : Nat) : Int)) (by unfold quoM; congr 2; omega) ?_
      refine W.assign rfl rfl ?_
      refine W.nil ?_
      refine At.thenCode ?_
      refine C.seq ?_
      refine C.region ?_
      refine W.move rfl rfl ?_
      refine W.move rfl rfl ?_
      refine W.move rfl rfl ?_
      refine W.mulU (M := 18446744073709551616) rfl rfl rfl rfl rfl ?_
      refine W.subU (M := 18446744073709551616) rfl rfl rfl rfl rfl ?_
      refine W.eqv (v' := .int .u64 ((y % 4294967295 : Nat) : Int)) (by rw [mul64c (by omega), sub64 (by omega) (by omega)]; congr 2; omega) ?_
      refine W.assign rfl rfl ?_
      refine W.nil ?_
      refine At.thenCode ?_
      refine C.seqMid (X := Nat) (fun x_ => [(2, .int .u64 ((18446744073709551600 : Nat) : Int)), (8, .int .u64 ((3 : Nat) : Int)), (9, .int .u64 ((4294967295 : Nat) : Int)), (10, .int .u64 ((4294967280 : Nat) : Int)), (14, .int .u64 (m0 : Int)), (15, .int .u64 (q1 : Int)), (17, .int .u64 (y : Int)), (18, .int .u64 (x_ : Int))]) (fun x_ wm2 => w = wm2 ∧ 18446744073709551600 * x_ ≤ 4294967296 * y + m0 ∧ 4294967296 * y + m0 < 18446744073709551600 * x_ + 18446744073709551600) ?_ ?_
      · refine C.block ?_
        refine C.loop (X := Nat × Nat) (fun x_ => [(2, .int .u64 ((18446744073709551600 : Nat) : Int)), (8, .int .u64 ((3 : Nat) : Int)), (9, .int .u64 ((4294967295 : Nat) : Int)), (10, .int .u64 ((4294967280 : Nat) : Int)), (14, .int .u64 (m0 : Int)), (15, .int .u64 (q1 : Int)), (17, .int .u64 (y : Int)), (18, .int .u64 (x_.1 : Int)), (16, .int .u64 (x_.2 : Int))]) (fun x_ w2 => w = w2 ∧ 4294967295 * x_.1 + x_.2 = y ∧ x_.1 ≤ 4294967296 ∧ x_.2 < 4294967296 ∧ 4294967296 * y + m0 < 18446744073709551600 * x_.1 + 18446744073709551600) (fun x_ => x_.1) (y / 4294967295, y % 4294967295) (Sub.cons (rfl) (Sub.cons (rfl) (Sub.cons (rfl) (Sub.cons (rfl) (Sub.cons (rfl) (Sub.cons (rfl) (Sub.cons (rfl) (Sub.cons (rfl) (Sub.cons (rfl) (Sub.nil)))))))))) ?start2 ?_
        case start2 =>
          show w = _ ∧ 4294967295 * (y / 4294967295) + (y % 4294967295) = y ∧ (y / 4294967295) ≤ 4294967296 ∧ (y % 4294967295) < 4294967296 ∧ 4294967296 * y + m0 < 18446744073709551600 * (y / 4294967295) + 18446744073709551600
          have := q_start (u := y) (m := m0) (by omega) (by omega); exact ⟨rfl, this.1, this.2.1, this.2.2.1, this.2.2.2⟩
        rintro ⟨q, r⟩ w2 hI_
        replace hI_ : w = w2 ∧ 4294967295 * q + r = y ∧ q ≤ 4294967296 ∧ r < 4294967296 ∧ 4294967296 * y + m0 < 18446744073709551600 * q + 18446744073709551600 := hI_
        obtain ⟨rfl, hq1, hq2, hq3, hq4⟩ := hI_
        refine C.weaken (l' := [(2, .int .u64 ((18446744073709551600 : Nat) : Int)), (8, .int .u64 ((3 : Nat) : Int)), (9, .int .u64 ((4294967295 : Nat) : Int)), (10, .int .u64 ((4294967280 : Nat) : Int)), (14, .int .u64 (m0 : Int)), (15, .int .u64 (q1 : Int)), (17, .int .u64 (y : Int)), (18, .int .u64 (q : Int)), (16, .int .u64 (r : Int))]) (Sub.cons (rfl) (Sub.cons (rfl) (Sub.cons (rfl) (Sub.cons (rfl) (Sub.cons (rfl) (Sub.cons (rfl) (Sub.cons (rfl) (Sub.cons (rfl) (Sub.cons (rfl) (Sub.nil)))))))))) ?_
        refine C.seq ?_
        refine C.seq ?_
        refine C.region ?_
        refine W.move rfl rfl ?_
        refine W.geqU (n := 4294967296) rfl rfl rfl ?_
        refine W.move rfl rfl ?_
        first | refine W.splitD (fun g104 => ?_) (fun g104 => ?_) | refine W.splitB (fun g104 => ?_) (fun g104 => ?_)
        · have hst := q_step (m := m0) hq1 hq2 hq3 (by omega) (by omega) (Or.inl g104)
          refine W.skips rfl rfl rfl rfl rfl rfl ?_
          refine W.skips rfl rfl rfl rfl rfl rfl ?_
          refine W.skips rfl rfl rfl rfl rfl rfl ?_
          refine W.skips rfl rfl rfl rfl rfl rfl ?_
          refine W.skips rfl rfl rfl rfl rfl rfl ?_
          refine W.skips rfl rfl rfl rfl rfl rfl ?_
          refine W.skips rfl rfl rfl rfl rfl rfl ?_
          refine W.skips rfl rfl rfl rfl rfl rfl ?_
          refine W.pickT rfl rfl rfl ?_
          refine W.nil ?_
          refine At.thenCode ?_
          refine C.condT rfl ?_
          refine C.skip ?_
          refine At.thenCode ?_
          refine C.block ?_
          refine C.seq ?_
          refine C.region ?_
          refine W.move rfl rfl ?_
          refine W.subU (M := 18446744073709551616) (n := 1) rfl rfl rfl rfl rfl ?_
          rw [sub64 (by omega) (by omega)]
          refine W.assign rfl rfl ?_
          refine W.nil ?_
          refine At.thenCode ?_
          refine C.seq ?_
          refine C.region ?_
          refine W.move rfl rfl ?_
          refine W.move rfl rfl ?_
          refine W.addU (M := 18446744073709551616) rfl rfl rfl rfl rfl ?_
          rw [add64 (by omega)]
          refine W.assign rfl rfl ?_
          refine W.nil ?_
          refine At.thenCode ?_
          refine C.seq ?_
          refine C.region ?_
          refine W.move rfl rfl ?_
          refine W.geqU (n := 4294967296) rfl rfl rfl ?_
          refine W.nil ?_
          refine At.thenCode ?_
          first | refine C.condD rfl (fun c120 => ?_) (fun c120 => ?_) | refine C.cond rfl (fun c120 => ?_) (fun c120 => ?_)
          · refine C.exit ?_
            refine At.blockOther rfl ?_
            refine At.thenExit ?_
            refine At.blockSelf ?_
            refine At.thenMid (q - 1) (Sub.cons (rfl) (Sub.cons (rfl) (Sub.cons (rfl) (Sub.cons (rfl) (Sub.cons (rfl) (Sub.cons (rfl) (Sub.cons (rfl) (Sub.cons (rfl) (Sub.nil))))))))) (show w = _ ∧ 18446744073709551600 * (q - 1) ≤ 4294967296 * y + m0 ∧ 4294967296 * y + m0 < 18446744073709551600 * (q - 1) + 18446744073709551600 from ?_)
            have := q_end (m := m0) hst.2.1 (by omega) (Or.inl (by omega))
            exact ⟨rfl, this, hst.2.2⟩
          · refine C.skip ?_
            refine At.blockNormal ?_
            refine At.thenRound (q - 1, r + 4294967295) (Sub.cons (rfl) (Sub.cons (rfl) (Sub.cons (rfl) (Sub.cons (rfl) (Sub.cons (rfl) (Sub.cons (rfl) (Sub.cons (rfl) (Sub.cons (rfl) (Sub.cons (rfl) (Sub.nil)))))))))) (show w = _ ∧ 4294967295 * (q - 1) + (r + 4294967295) = y ∧ (q - 1) ≤ 4294967296 ∧ (r + 4294967295) < 4294967296 ∧ 4294967296 * y + m0 < 18446744073709551600 * (q - 1) + 18446744073709551600 from ?_) (show (q - 1) < q from ?_)
            · exact ⟨rfl, hst.2.1, by omega, by omega, hst.2.2⟩
            · omega
        · refine W.wants rfl rfl rfl rfl ?_
          refine W.move rfl rfl ?_
          refine W.wants rfl rfl rfl rfl ?_
          refine W.move rfl rfl ?_
          refine W.wants rfl rfl rfl rfl ?_
          refine W.mulU (M := 18446744073709551616) rfl rfl rfl rfl rfl ?_
          rw [mul64c (by omega)]
          refine W.wants rfl rfl rfl rfl ?_
          refine W.move rfl rfl ?_
          refine W.wants rfl rfl rfl rfl ?_
          refine W.mulU (M := 18446744073709551616) (m := 4294967296) rfl rfl rfl rfl rfl ?_
          refine W.wants rfl rfl rfl rfl ?_
          refine W.move rfl rfl ?_
          refine W.wants rfl rfl rfl rfl ?_
          refine W.addU (M := 18446744073709551616) rfl rfl rfl rfl rfl ?_
          rw [mul64 (m := 4294967296) (by omega), add64 (by omega)]
          refine W.wants rfl rfl rfl rfl ?_
          refine W.gtrU rfl rfl rfl ?_
          refine W.pickF rfl rfl rfl ?_
          refine W.nil ?_
          refine At.thenCode ?_
          first | refine C.condD rfl (fun c113 => ?_) (fun c113 => ?_) | refine C.cond rfl (fun c113 => ?_) (fun c113 => ?_)
          · have hst := q_step (m := m0) hq1 hq2 hq3 (by omega) (by omega) (Or.inr c113)
            refine C.skip ?_
            refine At.thenCode ?_
            refine C.block ?_
            refine C.seq ?_
            refine C.region ?_
            refine W.move rfl rfl ?_
            refine W.subU (M := 18446744073709551616) (n := 1) rfl rfl rfl rfl rfl ?_
            rw [sub64 (by omega) (by omega)]
            refine W.assign rfl rfl ?_
            refine W.nil ?_
            refine At.thenCode ?_
            refine C.seq ?_
            refine C.region ?_
            refine W.move rfl rfl ?_
            refine W.move rfl rfl ?_
            refine W.addU (M := 18446744073709551616) rfl rfl rfl rfl rfl ?_
            rw [add64 (by omega)]
            refine W.assign rfl rfl ?_
            refine W.nil ?_
            refine At.thenCode ?_
            refine C.seq ?_
            refine C.region ?_
            refine W.move rfl rfl ?_
            refine W.geqU (n := 4294967296) rfl rfl rfl ?_
            refine W.nil ?_
            refine At.thenCode ?_
            first | refine C.condD rfl (fun c120 => ?_) (fun c120 => ?_) | refine C.cond rfl (fun c120 => ?_) (fun c120 => ?_)
            · refine C.exit ?_
              refine At.blockOther rfl ?_
              refine At.thenExit ?_
              refine At.blockSelf ?_
              refine At.thenMid (q - 1) (Sub.cons (rfl) (Sub.cons (rfl) (Sub.cons (rfl) (Sub.cons (rfl) (Sub.cons (rfl) (Sub.cons (rfl) (Sub.cons (rfl) (Sub.cons (rfl) (Sub.nil))))))))) (show w = _ ∧ 18446744073709551600 * (q - 1) ≤ 4294967296 * y + m0 ∧ 4294967296 * y + m0 < 18446744073709551600 * (q - 1) + 18446744073709551600 from ?_)
              have := q_end (m := m0) hst.2.1 (by omega) (Or.inl (by omega))
              exact ⟨rfl, this, hst.2.2⟩
            · refine C.skip ?_
              refine At.blockNormal ?_
              refine At.thenRound (q - 1, r + 4294967295) (Sub.cons (rfl) (Sub.cons (rfl) (Sub.cons (rfl) (Sub.cons (rfl) (Sub.cons (rfl) (Sub.cons (rfl) (Sub.cons (rfl) (Sub.cons (rfl) (Sub.cons (rfl) (Sub.nil)))))))))) (show w = _ ∧ 4294967295 * (q - 1) + (r + 4294967295) = y ∧ (q - 1) ≤ 4294967296 ∧ (r + 4294967295) < 4294967296 ∧ 4294967296 * y + m0 < 18446744073709551600 * (q - 1) + 18446744073709551600 from ?_) (show (q - 1) < q from ?_)
              · exact ⟨rfl, hst.2.1, by omega, by omega, hst.2.2⟩
              · omega
          · refine C.exit ?_
            refine At.thenExit ?_
            refine At.thenExit ?_
            refine At.blockSelf ?_
            refine At.thenMid (q) (Sub.cons (rfl) (Sub.cons (rfl) (Sub.cons (rfl) (Sub.cons (rfl) (Sub.cons (rfl) (Sub.cons (rfl) (Sub.cons (rfl) (Sub.cons (rfl) (Sub.nil))))))))) (show w = _ ∧ 18446744073709551600 * (q) ≤ 4294967296 * y + m0 ∧ 4294967296 * y + m0 < 18446744073709551600 * (q) + 18446744073709551600 from ?_)
            have := q_end (m := m0) hq1 hq2 (Or.inr ⟨by omega, by omega⟩)
            exact ⟨rfl, this, hq4⟩
      · rintro q2 wm2 hI_
        replace hI_ : w = wm2 ∧ 18446744073709551600 * q2 ≤ 4294967296 * y + m0 ∧ 4294967296 * y + m0 < 18446744073709551600 * q2 + 18446744073709551600 := hI_
        obtain ⟨rfl, hz2, hy2'⟩ := hI_
        refine C.weaken (l' := [(2, .int .u64 ((18446744073709551600 : Nat) : Int)), (8, .int .u64 ((3 : Nat) : Int)), (9, .int .u64 ((4294967295 : Nat) : Int)), (10, .int .u64 ((4294967280 : Nat) : Int)), (14, .int .u64 (m0 : Int)), (15, .int .u64 (q1 : Int)), (17, .int .u64 (y : Int)), (18, .int .u64 (q2 : Int))]) (Sub.cons (rfl) (Sub.cons (rfl) (Sub.cons (rfl) (Sub.cons (rfl) (Sub.cons (rfl) (Sub.cons (rfl) (Sub.cons (rfl) (Sub.cons (rfl) (Sub.nil))))))))) ?_
        refine C.seq ?_
        refine C.region ?_
        refine W.move rfl rfl ?_
        refine W.mulU (M := 18446744073709551616) (n := 4294967296) rfl rfl rfl rfl rfl ?_
        refine W.move rfl rfl ?_
        refine W.addU (M := 18446744073709551616) rfl rfl rfl rfl rfl ?_
        refine W.move rfl rfl ?_
        refine W.mulU (M := 18446744073709551616) (n := 4294967296) rfl rfl rfl rfl rfl ?_
        refine W.move rfl rfl ?_
        refine W.addU (M := 18446744073709551616) rfl rfl rfl rfl rfl ?_
        refine W.move rfl rfl ?_
        refine W.move rfl rfl ?_
        refine W.mulU (M := 18446744073709551616) rfl rfl rfl rfl rfl ?_
        refine W.subU (M := 18446744073709551616) rfl rfl rfl rfl rfl ?_
        rw [un_eq hz2 hy2']
        refine W.move rfl rfl ?_
        refine W.shrU (B := 64) rfl rfl rfl rfl ?_
        refine W.assign rfl rfl ?_
        refine W.assign rfl rfl ?_
        refine W.nil ?_
        refine At.thenCode ?_
        refine C.ret ?_
        refine At.ret2 Try.results20 rfl rfl ?_
        refine ⟨⟨addM 18446744073709551616 (mulM 18446744073709551616 q1 4294967296) q2, ?_⟩, Ext.refl _⟩
        have := div_fin h l y q1 q2 m1 m0 hh hl (by omega) (by omega) hz2 hy2'
        rw [Nat.mul_comm h, ← this]
        rfl
theorem Rem64_N (h l : Nat) (hh : h < 2305843009213693950) (hl : l < 18446744073709551616) (w : World) :
    Ct Try.prog 18 #[.int .u64 (h : Int), .int .u64 (l : Int), .int .u64 ((2305843009213693950 : Nat) : Int)] w (fun v w' => v = .int .u64 (((h * 18446744073709551616 + l) % 2305843009213693950 : Nat) : Int) ∧ Ext w w') := by
  refine Ct.enter [(0, .int .u64 (h : Int)), (1, .int .u64 (l : Int)), (2, .int .u64 ((2305843009213693950 : Nat) : Int))] Try.func18 rfl rfl rfl rfl ?_
  refine C.seq ?_
  refine C.region ?_
  refine W.assign rfl rfl ?_
  refine W.nil ?_
  refine At.thenCode ?_
  refine C.seq ?_
  refine C.region ?_
  refine W.move rfl rfl ?_
  refine W.move rfl rfl ?_
  refine W.remU rfl rfl (by omega) rfl ?_
  rw [Nat.mod_eq_of_lt hh]
  refine W.move rfl rfl ?_
  refine W.move rfl rfl ?_
  refine W.call Try.call20 rfl (Scal.Div64_N _ _ (by omega) (by omega) _) rfl ?_
  rintro v15 w15 ⟨⟨q15, rfl⟩, hX15⟩
  refine W.move rfl rfl ?_
  refine W.extract rfl rfl rfl ?_
  refine W.extract rfl rfl rfl ?_
  refine W.assign rfl rfl ?_
  refine W.assign rfl rfl ?_
  refine W.nil ?_
  refine At.thenCode ?_
  refine C.seq ?_
  refine C.region ?_
  refine W.move rfl rfl ?_
  refine W.assign rfl rfl ?_
  refine W.nil ?_
  refine At.thenCode ?_
  refine C.ret ?_
  refine At.ret1 Try.results18 rfl ?_
  exact ⟨rfl, hX15⟩
theorem Reduce_ok (x : Nat) (w : World) : Ct Try.prog 8 #[.int .u64 (x : Int)] w (fun v w' => v = .int .u64 ((x % 2305843009213693950 : Nat) : Int) ∧ w = w') := by
  refine Ct.enter [(0, .int .u64 (x : Int))] Try.func8 rfl rfl rfl rfl ?_
  refine C.seq ?_
  refine C.region ?_
  refine W.assign rfl rfl ?_
  refine W.nil ?_
  refine At.thenCode ?_
  refine C.seq ?_
  refine C.region ?_
  refine W.move rfl rfl ?_
  refine W.remU (n := 2305843009213693950) rfl rfl (by omega) rfl ?_
  refine W.assign rfl rfl ?_
  refine W.nil ?_
  refine At.thenCode ?_
  refine C.ret ?_
  refine At.ret1 Try.results8 rfl ?_
  exact ⟨rfl, rfl⟩
theorem Add_ok (a b : Nat) (w : World) : Ct Try.prog 9 #[.int .u64 (a : Int), .int .u64 (b : Int)] w (fun v w' => v = .int .u64 (((a + b) % 2305843009213693950 : Nat) : Int) ∧ w = w') := by
  refine Ct.enter [(0, .int .u64 (a : Int)), (1, .int .u64 (b : Int))] Try.func9 rfl rfl rfl rfl ?_
  have h1 := mod_lt_N a
  have h2 := mod_lt_N b
  refine C.seq ?_
  refine C.region ?_
  refine W.assign rfl rfl ?_
  refine W.nil ?_
  refine At.thenCode ?_
  refine C.seq ?_
  refine C.region ?_
  refine W.move rfl rfl ?_
  refine W.call Try.call8 rfl (Scal.Reduce_ok _ _) rfl ?_
  rintro v w' ⟨rfl, rfl⟩
  refine W.move rfl rfl ?_
  refine W.call Try.call8 rfl (Scal.Reduce_ok _ _) rfl ?_
  rintro v w' ⟨rfl, rfl⟩
  refine W.addU (M := 18446744073709551616) rfl rfl rfl rfl rfl ?_
  rw [add64 (by omega)]
  refine W.call Try.call8 rfl (Scal.Reduce_ok _ _) rfl ?_
  rintro v w' ⟨rfl, rfl⟩
  refine W.assign rfl rfl ?_
  refine W.nil ?_
  refine At.thenCode ?_
  refine C.ret ?_
  refine At.ret1 Try.results9 rfl ?_
  exact ⟨by rw [← Nat.add_mod], rfl⟩
theorem Sub_ok (a b : Nat) (w : World) : Ct Try.prog 11 #[.int .u64 (a : Int), .int .u64 (b : Int)] w (fun v w' => v = .int .u64 (((a % 2305843009213693950 + 2305843009213693950 - b % 2305843009213693950) % 2305843009213693950 : Nat) : Int) ∧ w = w') := by
  refine Ct.enter [(0, .int .u64 (a : Int)), (1, .int .u64 (b : Int))] Try.func11 rfl rfl rfl rfl ?_
  have h1 := mod_lt_N a
  have h2 := mod_lt_N b
  refine C.seq ?_
  refine C.region ?_
  refine W.assign rfl rfl ?_
  refine W.nil ?_
  refine At.thenCode ?_
  refine C.seq ?_
  refine C.region ?_
  refine W.move rfl rfl ?_
  refine W.call Try.call8 rfl (Scal.Reduce_ok _ _) rfl ?_
  rintro v w' ⟨rfl, rfl⟩
  refine W.addU (M := 18446744073709551616) (n := 2305843009213693950) rfl rfl rfl rfl rfl ?_
  rw [add64 (by omega)]
  refine W.move rfl rfl ?_
  refine W.call Try.call8 rfl (Scal.Reduce_ok _ _) rfl ?_
  rintro v w' ⟨rfl, rfl⟩
  refine W.subU (M := 18446744073709551616) rfl rfl rfl rfl rfl ?_
  rw [sub64 (by omega) (by omega)]
  refine W.call Try.call8 rfl (Scal.Reduce_ok _ _) rfl ?_
  rintro v w' ⟨rfl, rfl⟩
  refine W.assign rfl rfl ?_
  refine W.nil ?_
  refine At.thenCode ?_
  refine C.ret ?_
  refine At.ret1 Try.results11 rfl ?_
  exact ⟨rfl, rfl⟩
theorem Mul_ok (a b : Nat) (w : World) : Ct Try.prog 13 #[.int .u64 (a : Int), .int .u64 (b : Int)] w (fun v w' => v = .int .u64 ((a * b % 2305843009213693950 : Nat) : Int) ∧ Ext w w') := by
  refine Ct.enter [(0, .int .u64 (a : Int)), (1, .int .u64 (b : Int))] Try.func13 rfl rfl rfl rfl ?_
  have h1 := mod_lt_N a
  have h2 := mod_lt_N b
  have h3 : (a % 2305843009213693950) * (b % 2305843009213693950) ≤ 2305843009213693949 * 2305843009213693949 := Nat.mul_le_mul (by omega) (by omega)
  refine C.seq ?_
  refine C.region ?_
  refine W.assign rfl rfl ?_
  refine W.nil ?_
  refine At.thenCode ?_
  refine C.seq ?_
  refine C.region ?_
  refine W.move rfl rfl ?_
  refine W.call Try.call8 rfl (Scal.Reduce_ok _ _) rfl ?_
  rintro v w' ⟨rfl, rfl⟩
  refine W.move rfl rfl ?_
  refine W.call Try.call8 rfl (Scal.Reduce_ok _ _) rfl ?_
  rintro v w' ⟨rfl, rfl⟩
  refine W.call Try.call17 rfl (Modp.Mul64_ok _ _ (by first | omega | decide) (by first | omega | decide) _) rfl ?_
  rintro v w' ⟨rfl, rfl⟩
  refine W.move rfl rfl ?_
  refine W.extract rfl rfl rfl ?_
  refine W.extract rfl rfl rfl ?_
  refine W.assign rfl rfl ?_
  refine W.assign rfl rfl ?_
  refine W.nil ?_
  refine At.thenCode ?_
  refine C.seq ?_
  refine C.region ?_
  refine W.move rfl rfl ?_
  refine W.move rfl rfl ?_
  refine W.call Try.call18 rfl (Rem64_N _ _ (by omega) (by omega) _) rfl ?_
  rintro v17 w17 ⟨rfl, hX17⟩
  rw [Nat.div_add_mod', ← Nat.mul_mod]
  refine W.assign rfl rfl ?_
  refine W.nil ?_
  refine At.thenCode ?_
  refine C.ret ?_
  refine At.ret1 Try.results13 rfl ?_
  exact ⟨rfl, hX17⟩
/-- The number that bytes are, modulo N. -/
def ofNFrom (x : Nat) (xs : List UInt8) : Nat := xs.foldl (fun x b => (x * 256 % 2305843009213693950 + b.toNat) % 2305843009213693950) x
theorem ofN_snoc (x : Nat) (xs : List UInt8) (b : UInt8) : ofNFrom x (xs ++ [b]) = (ofNFrom x xs * 256 % 2305843009213693950 + b.toNat) % 2305843009213693950 := by simp [ofNFrom]
theorem ofN_lt {x : Nat} (hx : x < 2305843009213693950) (xs : List UInt8) : ofNFrom x xs < 2305843009213693950 := by
  induction xs generalizing x with
  | nil => exact hx
  | cons b r ih => exact ih (Nat.mod_lt _ (by decide))
theorem Of_ok (ao : Option Addr) (c : Nat) (xs : List UInt8) (w : World) (hS : Bs w ao c xs) (hl : xs.length ≤ 1000000) :
    Ct Try.prog 15 #[.slice ao xs.length c] w (fun v w' => v = .int .u64 ((ofNFrom 0 xs : Nat) : Int) ∧ Ext w w') := by
  refine Ct.enter [(0, .slice ao xs.length c)] Try.func15 rfl rfl rfl rfl ?_
  refine C.seq ?_
  refine C.region ?_
  refine W.assign rfl rfl ?_
  refine W.nil ?_
  refine At.thenCode ?_
  refine C.seq ?_
  refine C.region ?_
  refine W.assign rfl rfl ?_
  refine W.nil ?_
  refine At.thenCode ?_
  refine C.seq ?_
  refine C.seq ?_
  refine C.region ?_
  refine W.move rfl rfl ?_
  refine W.lenS rfl Try.underlying29 rfl ?_
  refine W.move rfl rfl ?_
  refine W.nil ?_
  refine At.thenCode ?_
  refine C.block ?_
  refine C.loop (X := Nat) (fun x_ => [(3, .int .u64 ((ofNFrom 0 (xs.take x_) : Nat) : Int)), (6, .slice ao xs.length c), (7, .int .i64 (xs.length : Int)), (8, .int .i64 (x_ : Int))]) (fun x_ w1 => Ext w w1 ∧ x_ ≤ xs.length) (fun x_ => xs.length - x_) (0) (Sub.cons (rfl) (Sub.cons (rfl) (Sub.cons (rfl) (Sub.cons (rfl) (Sub.nil))))) ?start1 ?_
  case start1 =>
    show Ext w _ ∧ (0) ≤ xs.length
    exact ⟨Ext.refl _, by omega⟩
  rintro i w1 hI_
  replace hI_ : Ext w w1 ∧ i ≤ xs.length := hI_
  obtain ⟨hX1, hi⟩ := hI_
  refine C.weaken (l' := [(3, .int .u64 ((ofNFrom 0 (xs.take i) : Nat) : Int)), (6, .slice ao xs.length c), (7, .int .i64 (xs.length : Int)), (8, .int .i64 (i : Int))]) (Sub.cons (rfl) (Sub.cons (rfl) (Sub.cons (rfl) (Sub.cons (rfl) (Sub.nil))))) ?_
  refine C.seq ?_
  refine C.region ?_
  refine W.lssI rfl rfl rfl ?_
  refine W.nil ?_
  refine At.thenCode ?_
  refine C.seq ?_
  first | refine C.condD rfl (fun c9 => ?_) (fun c9 => ?_) | refine C.cond rfl (fun c9 => ?_) (fun c9 => ?_)
  · refine C.skip ?_
    refine At.thenCode ?_
    refine C.seq ?_
    refine C.block ?_
    refine C.seq ?_
    refine C.region ?_
    have hlt : i < xs.length := by omega
    refine W.idx (v := .int .u8 ((((xs[i]'hlt).toNat : Nat)) : Int)) E8 Try.underlying29 Try.underlying5 rfl rfl (hS.ext hX1) rfl (by omega) ?_ rfl rfl ?_
    · exact get_byte hlt
    intro p10
    have hb := UInt8.toNat_lt (xs[i]'hlt)
    -- read with the address
    refine W.assign rfl rfl ?_
    refine W.nil ?_
    refine At.thenCode ?_
    refine C.region ?_
    refine W.move rfl rfl ?_
    refine W.call Try.call13 rfl (Scal.Mul_ok _ _ _) rfl ?_
    rintro v13 w13 ⟨rfl, hX13⟩
    refine W.move rfl rfl ?_
    first | refine W.convU (M := 18446744073709551616) rfl Try.underlying5 Try.underlying22 rfl rfl (by omega) rfl ?_ | refine W.convUU (M := 18446744073709551616) rfl Try.underlying5 Try.underlying22 rfl rfl rfl ?_
    refine W.call Try.call9 rfl (Scal.Add_ok _ _ _) rfl ?_
    rintro v w' ⟨rfl, rfl⟩
    refine W.assign rfl rfl ?_
    refine W.nil ?_
    refine At.blockNormal ?_
    refine At.thenCode ?_
    refine C.region ?_
    first | refine W.addI rfl rfl (by omega) rfl ?_ | refine W.addW rfl rfl rfl ?_
    refine W.move rfl rfl ?_
    refine W.nil ?_
    refine At.thenRound (i + 1) (Sub.cons (look_eq rfl (by rw [← ofN_snoc, List.take_append_getElem hlt])) (Sub.cons (rfl) (Sub.cons (rfl) (Sub.cons (look_eq rfl (by rw [show (i : Int) + 1 = ((i + 1 : Nat) : Int) by omega])) (Sub.nil))))) (show Ext w _ ∧ (i + 1) ≤ xs.length from ?_) (show xs.length - (i + 1) < xs.length - i from ?_)
    · exact ⟨hX1.ext hX13, by omega⟩
    · omega
  · refine C.exit ?_
    refine At.thenExit ?_
    refine At.thenExit ?_
    refine At.blockSelf ?_
    refine At.thenCode ?_
    refine C.seq ?_
    refine C.region ?_
    refine W.move rfl rfl ?_
    refine W.assign rfl rfl ?_
    refine W.nil ?_
    refine At.thenCode ?_
    refine C.ret ?_
    refine At.ret1 Try.results15 rfl ?_
    obtain rfl : i = xs.length := by omega
    exact ⟨by rw [List.take_length], hX1⟩
theorem ROfN_ok (ao : Option Addr) (c : Nat) (xs : List UInt8) (w : World) (hS : Bs w ao c xs) (hl : xs.length ≤ 1000000) :
    Ct Try.prog 16 #[.slice ao xs.length c] w (fun v w' => v = .int .u64 ((ofNFrom 0 xs : Nat) : Int) ∧ Ext w w') := by
  refine Ct.enter [(0, .slice ao xs.length c)] Try.func16 rfl rfl rfl rfl ?_
  refine C.seq ?_
  refine C.region ?_
  refine W.assign rfl rfl ?_
  refine W.nil ?_
  refine At.thenCode ?_
  refine C.seq ?_
  refine C.region ?_
  refine W.assign rfl rfl ?_
  refine W.nil ?_
  refine At.thenCode ?_
  refine C.seq ?_
  refine C.seq ?_
  refine C.region ?_
  refine W.assign rfl rfl ?_
  refine W.nil ?_
  refine At.thenCode ?_
  refine C.block ?_
  refine C.loop (X := Nat) (fun x_ => [(0, .slice ao xs.length c), (3, .int .u64 ((ofNFrom 0 (xs.take x_) : Nat) : Int)), (4, .int .i64 (x_ : Int))]) (fun x_ w1 => Ext w w1 ∧ x_ ≤ xs.length) (fun x_ => xs.length - x_) (0) (Sub.cons (rfl) (Sub.cons (rfl) (Sub.cons (rfl) (Sub.nil)))) ?start1 ?_
  case start1 =>
    show Ext w _ ∧ (0) ≤ xs.length
    exact ⟨Ext.refl _, by omega⟩
  rintro i w1 hI_
  replace hI_ : Ext w w1 ∧ i ≤ xs.length := hI_
  obtain ⟨hX1, hi⟩ := hI_
  refine C.weaken (l' := [(0, .slice ao xs.length c), (3, .int .u64 ((ofNFrom 0 (xs.take i) : Nat) : Int)), (4, .int .i64 (i : Int))]) (Sub.cons (rfl) (Sub.cons (rfl) (Sub.cons (rfl) (Sub.nil)))) ?_
  refine C.seq ?_
  refine C.seq ?_
  refine C.region ?_
  refine W.move rfl rfl ?_
  refine W.move rfl rfl ?_
  refine W.lenS rfl Try.underlying29 rfl ?_
  refine W.lssI rfl rfl rfl ?_
  refine W.nil ?_
  refine At.thenCode ?_
  first | refine C.condD rfl (fun c8 => ?_) (fun c8 => ?_) | refine C.cond rfl (fun c8 => ?_) (fun c8 => ?_)
  · have hlt : i < xs.length := by omega
    have hb := UInt8.toNat_lt (xs[i]'hlt)
    have hol := ofN_lt (x := 0) (by decide) (xs.take i)
    refine C.skip ?_
    refine At.thenCode ?_
    refine C.seq ?_
    refine C.block ?_
    refine C.regionAny ((fun v w => v = .int .u64 ((ofNFrom 0 (xs.take i) : Nat) : Int)) :: (fun v w => v = .int .u64 ((ofNFrom 0 (xs.take i) * 256 % 2305843009213693950 : Nat) : Int)) :: (fun v w => v = .slice ao xs.length c) :: (fun v w => v = .int .i64 (i : Int)) :: (fun v w => ∃ ad, v = .pointer (some ad) ∧ Cells w ad ((xs.map byteV).drop i)) :: (fun v w => v = .int .u8 ((((xs[i]'hlt).toNat : Nat)) : Int)) :: (fun v w => v = .int .u64 ((((xs[i]'hlt).toNat : Nat)) : Int)) :: (fun v w => v = .int .u64 (((ofNFrom 0 (xs.take i) * 256 % 2305843009213693950 + (xs[i]'hlt).toNat) % 2305843009213693950 : Nat) : Int)) :: (fun v w => v = .int .u64 (((ofNFrom 0 (xs.take i) * 256 % 2305843009213693950 + (xs[i]'hlt).toNat) % 2305843009213693950 : Nat) : Int)) :: []) [(0, .slice ao xs.length c), (4, .int .i64 (i : Int))] [(3, .int .u64 ((ofNFrom 0 (xs.take i) : Nat) : Int))] (Sub.cons (rfl) (Sub.cons (rfl) (Sub.cons (rfl) (Sub.nil)))) (Sub.cons (rfl) (Sub.nil)) (Sub.cons (rfl) (Sub.cons (rfl) (Sub.nil))) (by kernel_rfl) rfl rfl (And.intro (fun _ _ _ h _ => h) (And.intro (fun _ _ _ h _ => h) (And.intro (fun _ _ _ h _ => h) (And.intro (fun _ _ _ h _ => h) (And.intro (fun _ _ _ ⟨ad, e, h⟩ g => ⟨ad, e, h.chg g (fun c => c)⟩) (And.intro (fun _ _ _ h _ => h) (And.intro (fun _ _ _ h _ => h) (And.intro (fun _ _ _ h _ => h) (And.intro (fun _ _ _ h _ => h) (trivial)))))))))) ?_ ?_
    · refine And.intro ?_ ?_
      · intro L_ w5 hX_ hs_ hf_ hd_
        refine W.step [(3, _)] (Sub.cons (hf_ rfl _ _ rfl) (Sub.refl _)) ?_
        refine W.move rfl rfl ?_
        refine W.nil ?_
        exact At.step (Ext.refl _) rfl
      refine And.intro ?_ ?_
      · intro L_ w5 hX_ hs_ hf_ hd_
        obtain ⟨v0, e0, r0⟩ := hd_ 0 rfl
        obtain rfl : v0 = .int .u64 ((ofNFrom 0 (xs.take i) : Nat) : Int) := r0
        refine W.step [(11, _)] (Sub.cons e0 (Sub.refl _)) ?_
        refine W.call Try.call14 rfl (Modn.MulN_ok _ _ (by first | omega | decide) (by first | omega | decide) _) rfl ?_
        rintro v w' ⟨rfl, rfl⟩
        refine W.nil ?_
        exact At.step (Ext.refl _) rfl
      refine And.intro ?_ ?_
      · intro L_ w5 hX_ hs_ hf_ hd_
        refine W.step [(0, _)] (Sub.cons (hs_ _ _ rfl) (Sub.refl _)) ?_
        refine W.move rfl rfl ?_
        refine W.nil ?_
        exact At.step (Ext.refl _) rfl
      refine And.intro ?_ ?_
      · intro L_ w5 hX_ hs_ hf_ hd_
        refine W.step [(4, _)] (Sub.cons (hs_ _ _ rfl) (Sub.refl _)) ?_
        refine W.move rfl rfl ?_
        refine W.nil ?_
        exact At.step (Ext.refl _) rfl
      refine And.intro ?_ ?_
      · intro L_ w5 hX_ hs_ hf_ hd_
        obtain ⟨v2, e2, r2⟩ := hd_ 2 rfl
        obtain rfl : v2 = .slice ao xs.length c := r2
        obtain ⟨v3, e3, r3⟩ := hd_ 3 rfl
        obtain rfl : v3 = .int .i64 (i : Int) := r3
        refine W.step [(13, _), (14, _)] (Sub.cons e2 (Sub.cons e3 (Sub.refl _))) ?_
        refine W.indexS E8 Try.underlying29 rfl (hS.ext (hX1.ext hX_)) rfl (by omega) rfl ?_
        intro ad15 _ _ hc15
        rw [Int.toNat_natCast, Nat.mul_one] at hc15
        refine W.nil ?_
        exact At.step (Ext.refl _) ⟨_, rfl, hc15⟩
      refine And.intro ?_ ?_
      · intro L_ w5 hX_ hs_ hf_ hd_
        obtain ⟨v4, e4, r4⟩ := hd_ 4 rfl
        obtain ⟨ad4, rfl, hc4⟩ := r4
        refine W.step [(15, _)] (Sub.cons e4 (Sub.refl _)) ?_
        refine W.load (v := .int .u8 ((((xs[i]'hlt).toNat : Nat)) : Int)) rfl Try.underlying5 rfl ?_ rfl ?_
        · have := hc4 0 _ (by rw [List.getElem?_drop, Nat.add_zero]; exact get_byte hlt)
          rwa [add_zero'] at this
        refine W.nil ?_
        exact At.step (Ext.refl _) rfl
      refine And.intro ?_ ?_
      · intro L_ w5 hX_ hs_ hf_ hd_
        obtain ⟨v5, e5, r5⟩ := hd_ 5 rfl
        obtain rfl : v5 = .int .u8 ((((xs[i]'hlt).toNat : Nat)) : Int) := r5
        refine W.step [(16, _)] (Sub.cons e5 (Sub.refl _)) ?_
        first | refine W.convU (M := 18446744073709551616) rfl Try.underlying5 Try.underlying22 rfl rfl (by omega) rfl ?_ | refine W.convUU (M := 18446744073709551616) rfl Try.underlying5 Try.underlying22 rfl rfl rfl ?_
        refine W.nil ?_
        exact At.step (Ext.refl _) rfl
      refine And.intro ?_ ?_
      · intro L_ w5 hX_ hs_ hf_ hd_
        obtain ⟨v1, e1, r1⟩ := hd_ 1 rfl
        obtain rfl : v1 = .int .u64 ((ofNFrom 0 (xs.take i) * 256 % 2305843009213693950 : Nat) : Int) := r1
        obtain ⟨v6, e6, r6⟩ := hd_ 6 rfl
        obtain rfl : v6 = .int .u64 ((((xs[i]'hlt).toNat : Nat)) : Int) := r6
        refine W.step [(12, _), (17, _)] (Sub.cons e1 (Sub.cons e6 (Sub.refl _))) ?_
        refine W.call Try.call10 rfl (AddN_ok _ _ (by omega) (by omega) _) rfl ?_
        rintro v w' ⟨rfl, rfl⟩
        refine W.nil ?_
        exact At.step (Ext.refl _) rfl
      refine And.intro ?_ ?_
      · intro L_ w5 hX_ hs_ hf_ hd_
        obtain ⟨v7, e7, r7⟩ := hd_ 7 rfl
        obtain rfl : v7 = .int .u64 (((ofNFrom 0 (xs.take i) * 256 % 2305843009213693950 + (xs[i]'hlt).toNat) % 2305843009213693950 : Nat) : Int) := r7
        refine W.step [(18, _)] (Sub.cons e7 (Sub.refl _)) ?_
        refine W.assign rfl rfl ?_
        refine W.nil ?_
        exact At.step (Ext.refl _) rfl
      exact trivial
    · intro L_ w5 hX5 hs_ hv_
      obtain ⟨v8, e8, r8⟩ := hv_ 8 (by decide)
      obtain rfl : v8 = .int .u64 (((ofNFrom 0 (xs.take i) * 256 % 2305843009213693950 + (xs[i]'hlt).toNat) % 2305843009213693950 : Nat) : Int) := r8
      refine At.weaken (l' := [(3, _), (0, _), (4, _)]) (Sub.cons e8 (Sub.cons (hs_ _ _ rfl) (Sub.cons (hs_ _ _ rfl) (Sub.nil)))) ?_
      refine At.blockNormal ?_
      refine At.thenCode ?_
      refine C.region ?_
      refine W.move rfl rfl ?_
      first | refine W.addI rfl rfl (by omega) rfl ?_ | refine W.addW rfl rfl rfl ?_
      refine W.assign rfl rfl ?_
      refine W.nil ?_
      refine At.thenRound (i + 1) (Sub.cons (rfl) (Sub.cons (look_eq rfl (by rw [← ofN_snoc, List.take_append_getElem hlt])) (Sub.cons (look_eq rfl (by rw [show (i : Int) + 1 = ((i + 1 : Nat) : Int) by omega])) (Sub.nil)))) (show Ext w _ ∧ (i + 1) ≤ xs.length from ?_) (show xs.length - (i + 1) < xs.length - i from ?_)
      · exact ⟨hX1.ext hX5, by omega⟩
      · omega
  · refine C.exit ?_
    refine At.thenExit ?_
    refine At.thenExit ?_
    refine At.blockSelf ?_
    refine At.thenCode ?_
    refine C.seq ?_
    refine C.region ?_
    refine W.move rfl rfl ?_
    refine W.assign rfl rfl ?_
    refine W.nil ?_
    refine At.thenCode ?_
    refine C.ret ?_
    refine At.ret1 Try.results16 rfl ?_
    obtain rfl : i = xs.length := by omega
    exact ⟨by rw [List.take_length], hX1⟩
end Go.Proofs.Ytlbbngcmhlknoaa.Scal
