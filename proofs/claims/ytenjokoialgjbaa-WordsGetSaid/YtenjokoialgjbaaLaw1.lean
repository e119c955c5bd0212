/- The walks of chapter 1's laws. -/
import Derived.Test.YtenjokoialgjbaaWords
namespace Go.Proofs.Ytenjokoialgjbaa.Law1
open Go Go.RowKit Go.Proofs.Ytenjokoialgjbaa.KW Go.Proofs.Ytenjokoialgjbaa.Words
set_option linter.unusedVariables false
set_option linter.unusedSimpArgs false
set_option maxRecDepth 100000

theorem num_ok (e : Int) (w : World) : Ct Try.prog 12 #[.int .i64 e] w (fun v w' => v = .int .i64 e ∧ w = w') := by
  refine Ct.enter [(0, .int .i64 e)] Try.func12 rfl rfl rfl rfl ?_
  refine C.seq ?_
  refine C.region ?_
  refine W.assign rfl rfl ?_
  refine W.nil ?_
  refine At.thenCode ?_
  refine C.seq ?_
  refine C.region ?_
  refine W.move rfl rfl ?_
  refine W.assign rfl rfl ?_
  refine W.nil ?_
  refine At.thenCode ?_
  refine C.ret ?_
  refine At.ret1 Try.results12 rfl ?_
  exact ⟨rfl, rfl⟩
theorem alive_ok (w : World) : Ct Try.prog 9 #[] w (fun v w' => v = .bool true ∧ Ext w w') := by
  refine Ct.enter [] Try.func9 rfl rfl rfl rfl ?_
  refine C.seq ?_
  refine C.region ?_
  refine W.assign rfl rfl ?_
  refine W.nil ?_
  refine At.thenCode ?_
  refine C.seq ?_
  refine C.region ?_
  refine W.call Try.call10 rfl (Words.Narrow_ok _ _ _ _ (by omega)) rfl ?_
  rintro v w' ⟨rfl, rfl⟩
  refine W.move rfl rfl ?_
  refine W.extract rfl rfl rfl ?_
  refine W.extract rfl rfl rfl ?_
  refine W.assign rfl rfl ?_
  refine W.assign rfl rfl ?_
  refine W.nil ?_
  refine At.thenCode ?_
  refine C.seq ?_
  refine C.region ?_
  refine W.move rfl rfl ?_
  refine W.call Try.call12 rfl (num_ok _ _) rfl ?_
  rintro v w' ⟨rfl, rfl⟩
  refine W.eqlI rfl rfl rfl ?_
  refine W.eqv (bT (by decide)) ?_
  refine W.move rfl rfl ?_
  refine W.wants rfl rfl rfl rfl ?_
  refine W.move rfl rfl ?_
  refine W.wants rfl rfl rfl rfl ?_
  refine W.eqlI rfl rfl rfl ?_
  refine W.eqv (bT (by decide)) ?_
  refine W.pickT rfl rfl rfl ?_
  refine W.move rfl rfl ?_
  refine W.wants rfl rfl rfl rfl ?_
  refine W.call Try.call24 rfl (Put64_ok none 0 [] 1 _ (Sl.none _ 1) (by decide)) rfl ?_
  rintro v15 w15 ⟨hO15, hX15⟩
  obtain ⟨ao1, c1, rfl, hS15, hb15⟩ := ownsRow_form hO15
  refine W.wants rfl rfl rfl rfl ?_
  refine W.lenS rfl Try.underlying45 rfl ?_
  refine W.wants rfl rfl rfl rfl ?_
  refine W.eqlI rfl rfl rfl ?_
  refine W.eqv (bT (rfl)) ?_
  refine W.pickT rfl rfl rfl ?_
  refine W.assign rfl rfl ?_
  refine W.nil ?_
  refine At.thenCode ?_
  refine C.ret ?_
  refine At.ret1 Try.results9 rfl ?_
  exact ⟨rfl, hX15⟩

theorem WordsRot_walk (x : Nat) (n m : Int) (hx : x < 4294967296) (hn : -9223372036854775808 ≤ n ∧ n ≤ 9223372036854775807) (hm : -9223372036854775808 ≤ m ∧ m ≤ 9223372036854775807) (w : World) :
    Ct Try.prog 6 #[.int .u32 (x : Int), .int .i64 n, .int .i64 m] w (LawOk w) := by
  refine Ct.enter [(0, .int .u32 (x : Int)), (1, .int .i64 n), (2, .int .i64 m)] Try.func6 rfl rfl rfl rfl ?_
  have hk := turnK_lt n
  refine C.seq ?_
  refine C.region ?_
  refine W.assign rfl rfl ?_
  refine W.nil ?_
  refine At.thenCode ?_
  refine C.seq ?_
  refine C.region ?_
  refine W.call Try.call9 rfl (alive_ok _) rfl ?_
  rintro v w11 ⟨rfl, hX11⟩
  refine W.assign rfl rfl ?_
  refine W.nil ?_
  refine At.thenCode ?_
  refine C.seq ?_
  refine C.seq ?_
  refine C.region ?_
  refine W.move rfl rfl ?_
  first | refine W.notD rfl rfl ?_ | refine W.notB rfl rfl ?_
  refine W.nil ?_
  refine At.thenCode ?_
  refine C.condF rfl ?_
  refine C.skip ?_
  refine At.thenCode ?_
  refine C.seq ?_
  refine C.region ?_
  refine W.move rfl rfl ?_
  refine W.move rfl rfl ?_
  refine W.call Try.call21 rfl (Words.Rot_ok _ _ _) rfl ?_
  rintro v w' ⟨rfl, rfl⟩
  refine W.assign rfl rfl ?_
  refine W.nil ?_
  refine At.thenCode ?_
  refine C.seq ?_
  refine C.seq ?_
  refine C.region ?_
  refine W.move rfl rfl ?_
  refine W.move rfl rfl ?_
  refine W.move rfl rfl ?_
  refine W.call Try.call22 rfl (Words.RRot_ok _ _ _ (by first | assumption | omega)) rfl ?_
  rintro v w' ⟨rfl, rfl⟩
  refine W.neqU rfl rfl rfl ?_
  refine W.eqv (bF (by simp)) ?_
  refine W.nil ?_
  refine At.thenCode ?_
  refine C.condF rfl ?_
  refine C.skip ?_
  refine At.thenCode ?_
  refine C.seq ?_
  refine C.region ?_
  refine W.move rfl rfl ?_
  refine W.remW rfl rfl (by decide) rfl ?_
  have ht1 := Int.tmod_lt_of_pos n (show (0 : Int) < 32 by decide)
  have ht2 : -32 < n.tmod 32 := by
    rw [Int.tmod_eq_emod]; split <;> omega
  have ht3 : (n.tmod 32 + 32) % 32 = ((turnK n : Nat) : Int) := by
    unfold turnK
    rw [Int.tmod_eq_emod]; split <;> omega
  first | refine W.addI rfl rfl (by omega) rfl ?_ | refine W.addW rfl rfl rfl ?_
  first | refine W.remI rfl rfl (by omega) rfl ?_ | refine W.remW rfl rfl (by omega) rfl ?_
  rw [ht3]
  refine W.assign rfl rfl ?_
  refine W.nil ?_
  refine At.thenCode ?_
  refine C.seq ?_
  refine C.seq ?_
  refine C.region ?_
  refine W.assign rfl rfl ?_
  refine W.nil ?_
  refine At.thenCode ?_
  refine C.block ?_
  refine C.loop (X := Nat) (fun x_ => [(0, .int .u32 (x : Int)), (1, .int .i64 n), (2, .int .i64 m), (8, .int .u32 ((rotV x n : Nat) : Int)), (9, .int .i64 ((turnK n : Nat) : Int)), (10, .int .i64 (x_ : Int))]) (fun x_ w1 => w11 = w1 ∧ x_ ≤ 32) (fun x_ => 32 - x_) (0) (Sub.cons (rfl) (Sub.cons (rfl) (Sub.cons (rfl) (Sub.cons (rfl) (Sub.cons (rfl) (Sub.cons (rfl) (Sub.nil))))))) ?start1 ?_
  case start1 =>
    show w11 = _ ∧ (0) ≤ 32
    exact ⟨rfl, by omega⟩
  rintro i w1 hI_
  replace hI_ : w11 = w1 ∧ i ≤ 32 := hI_
  obtain ⟨rfl, hi⟩ := hI_
  refine C.weaken (l' := [(0, .int .u32 (x : Int)), (1, .int .i64 n), (2, .int .i64 m), (8, .int .u32 ((rotV x n : Nat) : Int)), (9, .int .i64 ((turnK n : Nat) : Int)), (10, .int .i64 (i : Int))]) (Sub.cons (rfl) (Sub.cons (rfl) (Sub.cons (rfl) (Sub.cons (rfl) (Sub.cons (rfl) (Sub.cons (rfl) (Sub.nil))))))) ?_
  refine C.seq ?_
  refine C.seq ?_
  refine C.region ?_
  refine W.move rfl rfl ?_
  refine W.lssI rfl rfl rfl ?_
  refine W.nil ?_
  refine At.thenCode ?_
  first | refine C.condD rfl (fun c28 => ?_) (fun c28 => ?_) | refine C.cond rfl (fun c28 => ?_) (fun c28 => ?_)
  · refine C.skip ?_
    refine At.thenCode ?_
    refine C.seq ?_
    refine C.block ?_
    refine C.seq ?_
    refine C.region ?_
    refine W.move rfl rfl ?_
    refine W.move rfl rfl ?_
    refine W.convU (M := 18446744073709551616) rfl Try.underlying3 Try.underlying29 rfl rfl (by omega) rfl ?_
    refine W.shrU (B := 32) rfl rfl rfl rfl ?_
    refine W.andU (M := 4294967296) (n := 1) rfl rfl rfl rfl rfl ?_
    refine W.move rfl rfl ?_
    refine W.move rfl rfl ?_
    refine W.move rfl rfl ?_
    first | refine W.addI rfl rfl (by omega) rfl ?_ | refine W.addW rfl rfl rfl ?_
    first | refine W.remI rfl rfl (by omega) rfl ?_ | refine W.remW rfl rfl (by omega) rfl ?_
    refine W.eqv (v' := .int .i64 (((i + turnK n) % 32 : Nat) : Int)) (by congr 1) ?_
    refine W.convU (M := 18446744073709551616) rfl Try.underlying3 Try.underlying29 rfl rfl (by omega) rfl ?_
    refine W.shrU (B := 32) rfl rfl rfl rfl ?_
    refine W.andU (M := 4294967296) (n := 1) rfl rfl rfl rfl rfl ?_
    refine W.neqU rfl rfl rfl ?_
    refine W.eqv (bF (by rw [bit_and _ _ (by omega), bit_and _ _ (by omega), rotV_bit hx n (by omega)]; simp)) ?_
    refine W.nil ?_
    refine At.thenCode ?_
    refine C.condF rfl ?_
    refine C.skip ?_
    refine At.blockNormal ?_
    refine At.thenCode ?_
    refine C.region ?_
    refine W.move rfl rfl ?_
    first | refine W.addI rfl rfl (by omega) rfl ?_ | refine W.addW rfl rfl rfl ?_
    refine W.assign rfl rfl ?_
    refine W.nil ?_
    refine At.thenRound (i + 1) (Sub.cons (rfl) (Sub.cons (rfl) (Sub.cons (rfl) (Sub.cons (rfl) (Sub.cons (rfl) (Sub.cons (look_eq rfl (by rw [show (i : Int) + 1 = ((i + 1 : Nat) : Int) by omega])) (Sub.nil))))))) (show w11 = _ ∧ (i + 1) ≤ 32 from ?_) (show 32 - (i + 1) < 32 - i from ?_)
    · exact ⟨rfl, by omega⟩
    · omega
  · refine C.exit ?_
    refine At.thenExit ?_
    refine At.thenExit ?_
    refine At.blockSelf ?_
    refine At.thenCode ?_
    refine C.seq ?_
    refine C.region ?_
    refine W.move rfl rfl ?_
    refine W.lssI rfl rfl rfl ?_
    refine W.move rfl rfl ?_
    first | refine W.splitD (fun g47 => ?_) (fun g47 => ?_) | refine W.splitB (fun g47 => ?_) (fun g47 => ?_)
    · refine W.skips rfl rfl rfl rfl rfl rfl ?_
      refine W.skips rfl rfl rfl rfl rfl rfl ?_
      refine W.pickT rfl rfl rfl ?_
      refine W.move rfl rfl ?_
      refine W.skips rfl rfl rfl rfl rfl rfl ?_
      refine W.skips rfl rfl rfl rfl rfl rfl ?_
      refine W.pickT rfl rfl rfl ?_
      refine W.move rfl rfl ?_
      refine W.skips rfl rfl rfl rfl rfl rfl ?_
      refine W.skips rfl rfl rfl rfl rfl rfl ?_
      refine W.pickT rfl rfl rfl ?_
      refine W.move rfl rfl ?_
      refine W.skips rfl rfl rfl rfl rfl rfl ?_
      refine W.skips rfl rfl rfl rfl rfl rfl ?_
      refine W.skips rfl rfl rfl rfl rfl rfl ?_
      refine W.skips rfl rfl rfl rfl rfl rfl ?_
      refine W.skips rfl rfl rfl rfl rfl rfl ?_
      refine W.skips rfl rfl rfl rfl rfl rfl ?_
      refine W.skips rfl rfl rfl rfl rfl rfl ?_
      refine W.skips rfl rfl rfl rfl rfl rfl ?_
      refine W.skips rfl rfl rfl rfl rfl rfl ?_
      refine W.pickT rfl rfl rfl ?_
      refine W.assign rfl rfl ?_
      refine W.nil ?_
      refine At.thenCode ?_
      refine C.ret ?_
      refine At.ret1 Try.results6 rfl ?_
      exact ⟨rfl, hX11.below⟩
    · refine W.wants rfl rfl rfl rfl ?_
      refine W.move rfl rfl ?_
      refine W.wants rfl rfl rfl rfl ?_
      refine W.gtrI rfl rfl rfl ?_
      refine W.pickF rfl rfl rfl ?_
      refine W.move rfl rfl ?_
      first | refine W.splitD (fun g51 => ?_) (fun g51 => ?_) | refine W.splitB (fun g51 => ?_) (fun g51 => ?_)
      · refine W.skips rfl rfl rfl rfl rfl rfl ?_
        refine W.skips rfl rfl rfl rfl rfl rfl ?_
        refine W.pickT rfl rfl rfl ?_
        refine W.move rfl rfl ?_
        refine W.skips rfl rfl rfl rfl rfl rfl ?_
        refine W.skips rfl rfl rfl rfl rfl rfl ?_
        refine W.pickT rfl rfl rfl ?_
        refine W.move rfl rfl ?_
        refine W.skips rfl rfl rfl rfl rfl rfl ?_
        refine W.skips rfl rfl rfl rfl rfl rfl ?_
        refine W.skips rfl rfl rfl rfl rfl rfl ?_
        refine W.skips rfl rfl rfl rfl rfl rfl ?_
        refine W.skips rfl rfl rfl rfl rfl rfl ?_
        refine W.skips rfl rfl rfl rfl rfl rfl ?_
        refine W.skips rfl rfl rfl rfl rfl rfl ?_
        refine W.skips rfl rfl rfl rfl rfl rfl ?_
        refine W.skips rfl rfl rfl rfl rfl rfl ?_
        refine W.pickT rfl rfl rfl ?_
        refine W.assign rfl rfl ?_
        refine W.nil ?_
        refine At.thenCode ?_
        refine C.ret ?_
        refine At.ret1 Try.results6 rfl ?_
        exact ⟨rfl, hX11.below⟩
      · refine W.wants rfl rfl rfl rfl ?_
        refine W.move rfl rfl ?_
        refine W.wants rfl rfl rfl rfl ?_
        refine W.gtrI rfl rfl rfl ?_
        refine W.pickF rfl rfl rfl ?_
        refine W.move rfl rfl ?_
        first | refine W.splitD (fun g55 => ?_) (fun g55 => ?_) | refine W.splitB (fun g55 => ?_) (fun g55 => ?_)
        · refine W.skips rfl rfl rfl rfl rfl rfl ?_
          refine W.skips rfl rfl rfl rfl rfl rfl ?_
          refine W.pickT rfl rfl rfl ?_
          refine W.move rfl rfl ?_
          refine W.skips rfl rfl rfl rfl rfl rfl ?_
          refine W.skips rfl rfl rfl rfl rfl rfl ?_
          refine W.skips rfl rfl rfl rfl rfl rfl ?_
          refine W.skips rfl rfl rfl rfl rfl rfl ?_
          refine W.skips rfl rfl rfl rfl rfl rfl ?_
          refine W.skips rfl rfl rfl rfl rfl rfl ?_
          refine W.skips rfl rfl rfl rfl rfl rfl ?_
          refine W.skips rfl rfl rfl rfl rfl rfl ?_
          refine W.skips rfl rfl rfl rfl rfl rfl ?_
          refine W.pickT rfl rfl rfl ?_
          refine W.assign rfl rfl ?_
          refine W.nil ?_
          refine At.thenCode ?_
          refine C.ret ?_
          refine At.ret1 Try.results6 rfl ?_
          exact ⟨rfl, hX11.below⟩
        · refine W.wants rfl rfl rfl rfl ?_
          refine W.move rfl rfl ?_
          refine W.wants rfl rfl rfl rfl ?_
          refine W.lssI rfl rfl rfl ?_
          refine W.pickF rfl rfl rfl ?_
          refine W.move rfl rfl ?_
          first | refine W.splitD (fun g59 => ?_) (fun g59 => ?_) | refine W.splitB (fun g59 => ?_) (fun g59 => ?_)
          · refine W.skips rfl rfl rfl rfl rfl rfl ?_
            refine W.skips rfl rfl rfl rfl rfl rfl ?_
            refine W.skips rfl rfl rfl rfl rfl rfl ?_
            refine W.skips rfl rfl rfl rfl rfl rfl ?_
            refine W.skips rfl rfl rfl rfl rfl rfl ?_
            refine W.skips rfl rfl rfl rfl rfl rfl ?_
            refine W.skips rfl rfl rfl rfl rfl rfl ?_
            refine W.skips rfl rfl rfl rfl rfl rfl ?_
            refine W.skips rfl rfl rfl rfl rfl rfl ?_
            refine W.pickT rfl rfl rfl ?_
            refine W.assign rfl rfl ?_
            refine W.nil ?_
            refine At.thenCode ?_
            refine C.ret ?_
            refine At.ret1 Try.results6 rfl ?_
            exact ⟨rfl, hX11.below⟩
          · refine W.wants rfl rfl rfl rfl ?_
            refine W.move rfl rfl ?_
            refine W.wants rfl rfl rfl rfl ?_
            refine W.move rfl rfl ?_
            refine W.wants rfl rfl rfl rfl ?_
            refine W.call Try.call21 rfl (Words.Rot_ok _ _ _) rfl ?_
            rintro v w' ⟨rfl, rfl⟩
            refine W.wants rfl rfl rfl rfl ?_
            refine W.move rfl rfl ?_
            refine W.wants rfl rfl rfl rfl ?_
            refine W.move rfl rfl ?_
            refine W.wants rfl rfl rfl rfl ?_
            refine W.move rfl rfl ?_
            refine W.wants rfl rfl rfl rfl ?_
            first | refine W.addI rfl rfl (by omega) rfl ?_ | refine W.addW rfl rfl rfl ?_
            refine W.wants rfl rfl rfl rfl ?_
            refine W.call Try.call21 rfl (Words.Rot_ok _ _ _) rfl ?_
            rintro v w' ⟨rfl, rfl⟩
            refine W.wants rfl rfl rfl rfl ?_
            refine W.eqlU rfl rfl rfl ?_
            refine W.eqv (bT (by rw [rotV_rotV hx])) ?_
            refine W.pickF rfl rfl rfl ?_
            refine W.assign rfl rfl ?_
            refine W.nil ?_
            refine At.thenCode ?_
            refine C.ret ?_
            refine At.ret1 Try.results6 rfl ?_
            exact ⟨rfl, hX11.below⟩
theorem WordsNarrow_walk (n b : Int) (s : Bool) (hn : -9223372036854775808 ≤ n ∧ n ≤ 9223372036854775807) (hb : -9223372036854775808 ≤ b ∧ b ≤ 9223372036854775807) (w : World) :
    Ct Try.prog 3 #[.int .i64 n, .int .i64 b, .bool s] w (LawOk w) := by
  refine Ct.enter [(0, .int .i64 n), (1, .int .i64 b), (2, .bool s)] Try.func3 rfl rfl rfl rfl ?_
  refine C.seq ?_
  refine C.region ?_
  refine W.assign rfl rfl ?_
  refine W.nil ?_
  refine At.thenCode ?_
  refine C.seq ?_
  refine C.region ?_
  refine W.call Try.call9 rfl (alive_ok _) rfl ?_
  rintro v w14 ⟨rfl, hX14⟩
  refine W.assign rfl rfl ?_
  refine W.nil ?_
  refine At.thenCode ?_
  refine C.seq ?_
  refine C.seq ?_
  refine C.region ?_
  refine W.move rfl rfl ?_
  first | refine W.notD rfl rfl ?_ | refine W.notB rfl rfl ?_
  refine W.nil ?_
  refine At.thenCode ?_
  refine C.condF rfl ?_
  refine C.skip ?_
  refine At.thenCode ?_
  refine C.seq ?_
  refine C.region ?_
  refine W.move rfl rfl ?_
  refine W.move rfl rfl ?_
  refine W.move rfl rfl ?_
  refine W.call Try.call10 rfl (Words.Narrow_ok _ _ _ _ (by omega)) rfl ?_
  rintro v w' ⟨rfl, rfl⟩
  refine W.move rfl rfl ?_
  refine W.extract rfl rfl rfl ?_
  refine W.extract rfl rfl rfl ?_
  refine W.assign rfl rfl ?_
  refine W.assign rfl rfl ?_
  refine W.nil ?_
  refine At.thenCode ?_
  refine C.seq ?_
  refine C.region ?_
  refine W.move rfl rfl ?_
  refine W.move rfl rfl ?_
  refine W.move rfl rfl ?_
  refine W.call Try.call11 rfl (Words.RNarrow_ok _ _ _ _ (by omega)) rfl ?_
  rintro v w' ⟨rfl, rfl⟩
  refine W.move rfl rfl ?_
  refine W.extract rfl rfl rfl ?_
  refine W.extract rfl rfl rfl ?_
  refine W.assign rfl rfl ?_
  refine W.assign rfl rfl ?_
  refine W.nil ?_
  refine At.thenCode ?_
  refine C.seq ?_
  refine C.seq ?_
  refine C.region ?_
  refine W.move rfl rfl ?_
  refine W.move rfl rfl ?_
  refine W.neqI rfl rfl rfl ?_
  refine W.eqv (bF (by simp)) ?_
  refine W.move rfl rfl ?_
  refine W.wants rfl rfl rfl rfl ?_
  refine W.move rfl rfl ?_
  refine W.wants rfl rfl rfl rfl ?_
  refine W.call Try.call12 rfl (num_ok _ _) rfl ?_
  rintro v w' ⟨rfl, rfl⟩
  refine W.wants rfl rfl rfl rfl ?_
  refine W.move rfl rfl ?_
  refine W.wants rfl rfl rfl rfl ?_
  refine W.neqI rfl rfl rfl ?_
  refine W.eqv (bF (by simp)) ?_
  refine W.pickF rfl rfl rfl ?_
  refine W.nil ?_
  refine At.thenCode ?_
  refine C.condF rfl ?_
  refine C.skip ?_
  refine At.thenCode ?_
  refine C.seq ?_
  refine C.seq ?_
  refine C.region ?_
  refine W.move rfl rfl ?_
  refine W.neqI rfl rfl rfl ?_
  refine W.move rfl rfl ?_
  first | refine W.splitD (fun g43 => ?_) (fun g43 => ?_) | refine W.splitB (fun g43 => ?_) (fun g43 => ?_)
  · refine W.skips rfl rfl rfl rfl rfl rfl ?_
    refine W.skips rfl rfl rfl rfl rfl rfl ?_
    refine W.pickT rfl rfl rfl ?_
    refine W.nil ?_
    refine At.thenCode ?_
    refine C.condT rfl ?_
    refine C.seq ?_
    refine C.region ?_
    refine W.assign rfl rfl ?_
    refine W.nil ?_
    refine At.thenCode ?_
    refine C.ret ?_
    refine At.thenRet ?_
    refine At.ret1 Try.results3 rfl ?_
    exact ⟨rfl, hX14.below⟩
  · refine W.wants rfl rfl rfl rfl ?_
    refine W.move rfl rfl ?_
    refine W.wants rfl rfl rfl rfl ?_
    refine W.eqlI rfl rfl rfl ?_
    refine W.pickF rfl rfl rfl ?_
    refine W.nil ?_
    refine At.thenCode ?_
    first | refine C.condD rfl (fun c46 => ?_) (fun c46 => ?_) | refine C.cond rfl (fun c46 => ?_) (fun c46 => ?_)
    · refine C.seq ?_
      refine C.region ?_
      refine W.assign rfl rfl ?_
      refine W.nil ?_
      refine At.thenCode ?_
      refine C.ret ?_
      refine At.thenRet ?_
      refine At.ret1 Try.results3 rfl ?_
      exact ⟨rfl, hX14.below⟩
    · refine C.skip ?_
      refine At.thenCode ?_
      refine C.seq ?_
      refine C.region ?_
      obtain ⟨a, hba, hp⟩ : ∃ a : Int, ((b = 8 ∧ a = 256) ∨ (b = 16 ∧ a = 65536) ∨ (b = 32 ∧ a = 4294967296)) ∧ ((1 : Int) * 2 ^ b.toNat = a ∧ a = ((2 ^ b.toNat : Nat) : Int)) := by
        have h0 : narE b = 0 := by omega
        have h1 : b = 8 ∨ b = 16 ∨ b = 32 ∨ b = 64 := by unfold narE at h0; split at h0 <;> omega
        rcases (show b = 8 ∨ b = 16 ∨ b = 32 by omega) with rfl | rfl | rfl
        · exact ⟨256, by omega, rfl, rfl⟩
        · exact ⟨65536, by omega, rfl, rfl⟩
        · exact ⟨4294967296, by omega, rfl, rfl⟩
      obtain ⟨hV, hE⟩ := narV_of (n := n) (s := s) hba
      obtain ⟨hV2, _⟩ := narV_of (n := narV n b s) (s := s) hba
      obtain ⟨hr, hr1, hr2, hr3⟩ := narA_range (n := n) (s := s) (show a = 256 ∨ a = 65536 ∨ a = 4294967296 by omega)
      have hbs : 0 ≤ b ∧ b ≤ 32 := by omega
      have has : 256 ≤ a ∧ a ≤ 4294967296 := by omega
      rw [← hV] at hr hr3
      refine W.move rfl rfl ?_
      refine W.move rfl rfl ?_
      refine W.move rfl rfl ?_
      refine W.call Try.call10 rfl (Words.Narrow_ok _ _ _ _ (by omega)) rfl ?_
      rintro v w' ⟨rfl, rfl⟩
      refine W.move rfl rfl ?_
      refine W.extract rfl rfl rfl ?_
      refine W.extract rfl rfl rfl ?_
      refine W.assign rfl rfl ?_
      refine W.assign rfl rfl ?_
      refine W.nil ?_
      refine At.thenCode ?_
      refine C.seq ?_
      refine C.region ?_
      refine W.move rfl rfl ?_
      refine W.call Try.call12 rfl (num_ok _ _) rfl ?_
      rintro v w' ⟨rfl, rfl⟩
      refine W.eqlI rfl rfl rfl ?_
      refine W.eqv (bT (hE)) ?_
      refine W.move rfl rfl ?_
      refine W.wants rfl rfl rfl rfl ?_
      refine W.move rfl rfl ?_
      refine W.wants rfl rfl rfl rfl ?_
      refine W.move rfl rfl ?_
      refine W.wants rfl rfl rfl rfl ?_
      refine W.eqlI rfl rfl rfl ?_
      refine W.eqv (bT (by rw [hV2, hV]; exact hr2)) ?_
      refine W.pickT rfl rfl rfl ?_
      refine W.move rfl rfl ?_
      refine W.wants rfl rfl rfl rfl ?_
      refine W.move rfl rfl ?_
      refine W.wants rfl rfl rfl rfl ?_
      refine W.move rfl rfl ?_
      refine W.wants rfl rfl rfl rfl ?_
      refine W.subW rfl rfl rfl ?_
      refine W.wants rfl rfl rfl rfl ?_
      refine W.move rfl rfl ?_
      refine W.wants rfl rfl rfl rfl ?_
      refine W.convIN (M := 18446744073709551616) rfl Try.underlying3 Try.underlying29 rfl rfl (by omega) rfl ?_
      refine W.wants rfl rfl rfl rfl ?_
      refine W.shlI rfl rfl (by omega) (by rw [hp.1]; omega) rfl ?_
      rw [hp.1]
      refine W.wants rfl rfl rfl rfl ?_
      first | refine W.subI rfl rfl (by omega) rfl ?_ | refine W.subW rfl rfl rfl ?_
      refine W.wants rfl rfl rfl rfl ?_
      refine W.maskI b.toNat rfl rfl (by have := Nat.two_pow_pos b.toNat; omega) (by omega) rfl ?_
      rw [← hp.2]
      refine W.wants rfl rfl rfl rfl ?_
      refine W.eqlI rfl rfl rfl ?_
      refine W.eqv (bT (by rcases hba with ⟨_, rfl⟩ | ⟨_, rfl⟩ | ⟨_, rfl⟩ <;> (simp [IntKind.wrap, IntKind.bits, IntKind.signed]; split <;> omega))) ?_
      refine W.pickT rfl rfl rfl ?_
      refine W.assign rfl rfl ?_
      refine W.nil ?_
      refine At.thenCode ?_
      refine C.ret ?_
      refine At.ret1 Try.results3 rfl ?_
      exact ⟨rfl, hX14.below⟩
theorem WordsGet_walk (ao : Option Addr) (c : Nat) (xs : List UInt8) (at_ : Int) (w : World) (hS : Bs w ao c xs) (hl : xs.length ≤ 9223372036854775807) (hat : -9223372036854775808 ≤ at_ ∧ at_ ≤ 9223372036854775807) :
    Ct Try.prog 8 #[.slice ao xs.length c, .int .i64 at_] w (LawOk w) := by
  refine Ct.enter [(0, .slice ao xs.length c), (1, .int .i64 at_)] Try.func8 rfl rfl rfl rfl ?_
  refine C.seq ?_
  refine C.region ?_
  refine W.assign rfl rfl ?_
  refine W.nil ?_
  refine At.thenCode ?_
  refine C.seq ?_
  refine C.region ?_
  refine W.call Try.call9 rfl (alive_ok _) rfl ?_
  rintro v w14 ⟨rfl, hX14⟩
  have hS := hS.ext hX14
  refine W.assign rfl rfl ?_
  refine W.nil ?_
  refine At.thenCode ?_
  refine C.seq ?_
  refine C.seq ?_
  refine C.region ?_
  refine W.move rfl rfl ?_
  first | refine W.notD rfl rfl ?_ | refine W.notB rfl rfl ?_
  refine W.move rfl rfl ?_
  refine W.wants rfl rfl rfl rfl ?_
  refine W.move rfl rfl ?_
  refine W.wants rfl rfl rfl rfl ?_
  refine W.lenS rfl Try.underlying45 rfl ?_
  refine W.wants rfl rfl rfl rfl ?_
  refine W.gtrI rfl rfl rfl ?_
  refine W.pickF rfl rfl rfl ?_
  refine W.nil ?_
  refine At.thenCode ?_
  first | refine C.condD rfl (fun c21 => ?_) (fun c21 => ?_) | refine C.cond rfl (fun c21 => ?_) (fun c21 => ?_)
  · refine C.seq ?_
    refine C.region ?_
    refine W.move rfl rfl ?_
    refine W.assign rfl rfl ?_
    refine W.nil ?_
    refine At.thenCode ?_
    refine C.ret ?_
    refine At.thenRet ?_
    refine At.ret1 Try.results8 rfl ?_
    exact ⟨rfl, hX14.below⟩
  · refine C.skip ?_
    refine At.thenCode ?_
    refine C.seq ?_
    refine C.region ?_
    refine W.move rfl rfl ?_
    refine W.move rfl rfl ?_
    refine W.call Try.call25 rfl (Words.Get32_ok _ _ _ _ _ (by assumption) (by first | omega | (simp; done)) (by omega)) rfl ?_
    rintro v w' ⟨rfl, rfl⟩
    refine W.move rfl rfl ?_
    refine W.extract rfl rfl rfl ?_
    refine W.extract rfl rfl rfl ?_
    refine W.assign rfl rfl ?_
    refine W.assign rfl rfl ?_
    refine W.nil ?_
    refine At.thenCode ?_
    refine C.seq ?_
    refine C.region ?_
    refine W.move rfl rfl ?_
    refine W.move rfl rfl ?_
    refine W.call Try.call29 rfl (Words.RGet32_ok _ _ _ _ _ (by assumption) (by first | omega | (simp; done)) (by omega)) rfl ?_
    rintro v w' ⟨rfl, rfl⟩
    refine W.move rfl rfl ?_
    refine W.extract rfl rfl rfl ?_
    refine W.extract rfl rfl rfl ?_
    refine W.assign rfl rfl ?_
    refine W.assign rfl rfl ?_
    refine W.nil ?_
    refine At.thenCode ?_
    refine C.seq ?_
    refine C.region ?_
    refine W.move rfl rfl ?_
    refine W.move rfl rfl ?_
    refine W.call Try.call26 rfl (Words.Get64_ok _ _ _ _ _ (by assumption) (by first | omega | (simp; done)) (by omega)) rfl ?_
    rintro v w' ⟨rfl, rfl⟩
    refine W.move rfl rfl ?_
    refine W.extract rfl rfl rfl ?_
    refine W.extract rfl rfl rfl ?_
    refine W.assign rfl rfl ?_
    refine W.assign rfl rfl ?_
    refine W.nil ?_
    refine At.thenCode ?_
    refine C.seq ?_
    refine C.region ?_
    refine W.move rfl rfl ?_
    refine W.move rfl rfl ?_
    refine W.call Try.call30 rfl (Words.RGet64_ok _ _ _ _ _ (by assumption) (by first | omega | (simp; done)) (by omega)) rfl ?_
    rintro v w' ⟨rfl, rfl⟩
    refine W.move rfl rfl ?_
    refine W.extract rfl rfl rfl ?_
    refine W.extract rfl rfl rfl ?_
    refine W.assign rfl rfl ?_
    refine W.assign rfl rfl ?_
    refine W.nil ?_
    refine At.thenCode ?_
    refine C.seq ?_
    refine C.region ?_
    refine W.move rfl rfl ?_
    refine W.move rfl rfl ?_
    refine W.eqlU rfl rfl rfl ?_
    refine W.eqv (bT (rfl)) ?_
    refine W.move rfl rfl ?_
    refine W.wants rfl rfl rfl rfl ?_
    refine W.move rfl rfl ?_
    refine W.wants rfl rfl rfl rfl ?_
    refine W.call Try.call12 rfl (num_ok _ _) rfl ?_
    rintro v w' ⟨rfl, rfl⟩
    refine W.wants rfl rfl rfl rfl ?_
    refine W.move rfl rfl ?_
    refine W.wants rfl rfl rfl rfl ?_
    refine W.eqlI rfl rfl rfl ?_
    refine W.eqv (bT (rfl)) ?_
    refine W.pickT rfl rfl rfl ?_
    refine W.move rfl rfl ?_
    refine W.wants rfl rfl rfl rfl ?_
    refine W.move rfl rfl ?_
    refine W.wants rfl rfl rfl rfl ?_
    refine W.move rfl rfl ?_
    refine W.wants rfl rfl rfl rfl ?_
    refine W.eqlU rfl rfl rfl ?_
    refine W.eqv (bT (rfl)) ?_
    refine W.pickT rfl rfl rfl ?_
    refine W.move rfl rfl ?_
    refine W.wants rfl rfl rfl rfl ?_
    refine W.move rfl rfl ?_
    refine W.wants rfl rfl rfl rfl ?_
    refine W.call Try.call12 rfl (num_ok _ _) rfl ?_
    rintro v w' ⟨rfl, rfl⟩
    refine W.wants rfl rfl rfl rfl ?_
    refine W.move rfl rfl ?_
    refine W.wants rfl rfl rfl rfl ?_
    refine W.eqlI rfl rfl rfl ?_
    refine W.eqv (bT (rfl)) ?_
    refine W.pickT rfl rfl rfl ?_
    refine W.assign rfl rfl ?_
    refine W.nil ?_
    refine At.thenCode ?_
    refine C.ret ?_
    refine At.ret1 Try.results8 rfl ?_
    exact ⟨rfl, hX14.below⟩
end Go.Proofs.Ytenjokoialgjbaa.Law1
