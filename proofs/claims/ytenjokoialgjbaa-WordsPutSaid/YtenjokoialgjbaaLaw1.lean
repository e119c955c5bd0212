/- The walks of chapter 1's laws. -/
import Derived.Test.YtenjokoialgjbaaWords
import Derived.Test.YtenjokoialgjbaaKr
namespace Go.Proofs.Ytenjokoialgjbaa.Law1
open Go Go.RowKit Go.Proofs.Ytenjokoialgjbaa.KW Go.Proofs.Ytenjokoialgjbaa.Words
set_option linter.unusedVariables false
set_option linter.unusedSimpArgs false
set_option maxRecDepth 100000

theorem num_ok (e : Int) (w : World) : Ct Try.prog 12 #[.int .i64 e] w (fun v w' => v = .int .i64 e ∧ w = w') := by
  refine Ct.enter [(0, .int .i64 e)] Try.func12 rfl rfl rfl rfl ?_
  refine C.seq ?_
  refine C.region ?_
  refine W.assign rfl rfl ?_
  refine W.nil ?_
  refine At.thenCode ?_
  refine C.seq ?_
  refine C.region ?_
  refine W.move rfl rfl ?_
  refine W.assign rfl rfl ?_
  refine W.nil ?_
  refine At.thenCode ?_
  refine C.ret ?_
  refine At.ret1 Try.results12 rfl ?_
  exact ⟨rfl, rfl⟩
theorem alive_ok (w : World) : Ct Try.prog 9 #[] w (fun v w' => v = .bool true ∧ Ext w w') := by
  refine Ct.enter [] Try.func9 rfl rfl rfl rfl ?_
  refine C.seq ?_
  refine C.region ?_
  refine W.assign rfl rfl ?_
  refine W.nil ?_
  refine At.thenCode ?_
  refine C.seq ?_
  refine C.region ?_
  refine W.call Try.call10 rfl (Words.Narrow_ok _ _ _ _ (by omega)) rfl ?_
  rintro v w' ⟨rfl, rfl⟩
  refine W.move rfl rfl ?_
  refine W.extract rfl rfl rfl ?_
  refine W.extract rfl rfl rfl ?_
  refine W.assign rfl rfl ?_
  refine W.assign rfl rfl ?_
  refine W.nil ?_
  refine At.thenCode ?_
  refine C.seq ?_
  refine C.region ?_
  refine W.move rfl rfl ?_
  refine W.call Try.call12 rfl (num_ok _ _) rfl ?_
  rintro v w' ⟨rfl, rfl⟩
  refine W.eqlI rfl rfl rfl ?_
  refine W.eqv (bT (by decide)) ?_
  refine W.move rfl rfl ?_
  refine W.wants rfl rfl rfl rfl ?_
  refine W.move rfl rfl ?_
  refine W.wants rfl rfl rfl rfl ?_
  refine W.eqlI rfl rfl rfl ?_
  refine W.eqv (bT (by decide)) ?_
  refine W.pickT rfl rfl rfl ?_
  refine W.move rfl rfl ?_
  refine W.wants rfl rfl rfl rfl ?_
  refine W.call Try.call24 rfl (Put64_ok none 0 [] 1 _ (Sl.none _ 1) (by decide)) rfl ?_
  rintro v15 w15 ⟨hO15, hX15⟩
  obtain ⟨ao1, c1, rfl, hS15, hb15⟩ := ownsRow_form hO15
  refine W.wants rfl rfl rfl rfl ?_
  refine W.lenS rfl Try.underlying45 rfl ?_
  refine W.wants rfl rfl rfl rfl ?_
  refine W.eqlI rfl rfl rfl ?_
  refine W.eqv (bT (rfl)) ?_
  refine W.pickT rfl rfl rfl ?_
  refine W.assign rfl rfl ?_
  refine W.nil ?_
  refine At.thenCode ?_
  refine C.ret ?_
  refine At.ret1 Try.results9 rfl ?_
  exact ⟨rfl, hX15⟩

theorem WordsRot_walk (x : Nat) (n m : Int) (hx : x < 4294967296) (hn : -9223372036854775808 ≤ n ∧ n ≤ 9223372036854775807) (hm : -9223372036854775808 ≤ m ∧ m ≤ 9223372036854775807) (w : World) :
    Ct Try.prog 6 #[.int .u32 (x : Int), .int .i64 n, .int .i64 m] w (LawOk w) := by
  refine Ct.enter [(0, .int .u32 (x : Int)), (1, .int .i64 n), (2, .int .i64 m)] Try.func6 rfl rfl rfl rfl ?_
  have hk := turnK_lt n
  refine C.seq ?_
  refine C.region ?_
  refine W.assign rfl rfl ?_
  refine W.nil ?_
  refine At.thenCode ?_
  refine C.seq ?_
  refine C.region ?_
  refine W.call Try.call9 rfl (alive_ok _) rfl ?_
  rintro v w11 ⟨rfl, hX11⟩
  refine W.assign rfl rfl ?_
  refine W.nil ?_
  refine At.thenCode ?_
  refine C.seq ?_
  refine C.seq ?_
  refine C.region ?_
  refine W.move rfl rfl ?_
  first | refine W.notD rfl rfl ?_ | refine W.notB rfl rfl ?_
  refine W.nil ?_
  refine At.thenCode ?_
  refine C.condF rfl ?_
  refine C.skip ?_
  refine At.thenCode ?_
  refine C.seq ?_
  refine C.region ?_
  refine W.move rfl rfl ?_
  refine W.move rfl rfl ?_
  refine W.call Try.call21 rfl (Words.Rot_ok _ _ _) rfl ?_
  rintro v w' ⟨rfl, rfl⟩
  refine W.assign rfl rfl ?_
  refine W.nil ?_
  refine At.thenCode ?_
  refine C.seq ?_
  refine C.seq ?_
  refine C.region ?_
  refine W.move rfl rfl ?_
  refine W.move rfl rfl ?_
  refine W.move rfl rfl ?_
  refine W.call Try.call22 rfl (Words.RRot_ok _ _ _ (by first | assumption | omega)) rfl ?_
  rintro v w' ⟨rfl, rfl⟩
  refine W.neqU rfl rfl rfl ?_
  refine W.eqv (bF (by simp)) ?_
  refine W.nil ?_
  refine At.thenCode ?_
  refine C.condF rfl ?_
  refine C.skip ?_
  refine At.thenCode ?_
  refine C.seq ?_
  refine C.region ?_
  refine W.move rfl rfl ?_
  refine W.remW rfl rfl (by decide) rfl ?_
  have ht1 := Int.tmod_lt_of_pos n (show (0 : Int) < 32 by decide)
  have ht2 : -32 < n.tmod 32 := by
    rw [Int.tmod_eq_emod]; split <;> omega
  have ht3 : (n.tmod 32 + 32) % 32 = ((turnK n : Nat) : Int) := by
    unfold turnK
    rw [Int.tmod_eq_emod]; split <;> omega
  first | refine W.addI rfl rfl (by omega) rfl ?_ | refine W.addW rfl rfl rfl ?_
  first | refine W.remI rfl rfl (by omega) rfl ?_ | refine W.remW rfl rfl (by omega) rfl ?_
  rw [ht3]
  refine W.assign rfl rfl ?_
  refine W.nil ?_
  refine At.thenCode ?_
  refine C.seq ?_
  refine C.seq ?_
  refine C.region ?_
  refine W.assign rfl rfl ?_
  refine W.nil ?_
  refine At.thenCode ?_
  refine C.block ?_
  refine C.loop (X := Nat) (fun x_ => [(0, .int .u32 (x : Int)), (1, .int .i64 n), (2, .int .i64 m), (8, .int .u32 ((rotV x n : Nat) : Int)), (9, .int .i64 ((turnK n : Nat) : Int)), (10, .int .i64 (x_ : Int))]) (fun x_ w1 => w11 = w1 ∧ x_ ≤ 32) (fun x_ => 32 - x_) (0) (Sub.cons (rfl) (Sub.cons (rfl) (Sub.cons (rfl) (Sub.cons (rfl) (Sub.cons (rfl) (Sub.cons (rfl) (Sub.nil))))))) ?start1 ?_
  case start1 =>
    show w11 = _ ∧ (0) ≤ 32
    exact ⟨rfl, by omega⟩
  rintro i w1 hI_
  replace hI_ : w11 = w1 ∧ i ≤ 32 := hI_
  obtain ⟨rfl, hi⟩ := hI_
  refine C.weaken (l' := [(0, .int .u32 (x : Int)), (1, .int .i64 n), (2, .int .i64 m), (8, .int .u32 ((rotV x n : Nat) : Int)), (9, .int .i64 ((turnK n : Nat) : Int)), (10, .int .i64 (i : Int))]) (Sub.cons (rfl) (Sub.cons (rfl) (Sub.cons (rfl) (Sub.cons (rfl) (Sub.cons (rfl) (Sub.cons (rfl) (Sub.nil))))))) ?_
  refine C.seq ?_
  refine C.seq ?_
  refine C.region ?_
  refine W.move rfl rfl ?_
  refine W.lssI rfl rfl rfl ?_
  refine W.nil ?_
  refine At.thenCode ?_
  first | refine C.condD rfl (fun c28 => ?_) (fun c28 => ?_) | refine C.cond rfl (fun c28 => ?_) (fun c28 => ?_)
  · refine C.skip ?_
    refine At.thenCode ?_
    refine C.seq ?_
    refine C.block ?_
    refine C.seq ?_
    refine C.region ?_
    refine W.move rfl rfl ?_
    refine W.move rfl rfl ?_
    refine W.convU (M := 18446744073709551616) rfl Try.underlying3 Try.underlying29 rfl rfl (by omega) rfl ?_
    refine W.shrU (B := 32) rfl rfl rfl rfl ?_
    refine W.andU (M := 4294967296) (n := 1) rfl rfl rfl rfl rfl ?_
    refine W.move rfl rfl ?_
    refine W.move rfl rfl ?_
    refine W.move rfl rfl ?_
    first | refine W.addI rfl rfl (by omega) rfl ?_ | refine W.addW rfl rfl rfl ?_
    first | refine W.remI rfl rfl (by omega) rfl ?_ | refine W.remW rfl rfl (by omega) rfl ?_
    refine W.eqv (v' := .int .i64 (((i + turnK n) % 32 : Nat) : Int)) (by congr 1) ?_
    refine W.convU (M := 18446744073709551616) rfl Try.underlying3 Try.underlying29 rfl rfl (by omega) rfl ?_
    refine W.shrU (B := 32) rfl rfl rfl rfl ?_
    refine W.andU (M := 4294967296) (n := 1) rfl rfl rfl rfl rfl ?_
    refine W.neqU rfl rfl rfl ?_
    refine W.eqv (bF (by rw [bit_and _ _ (by omega), bit_and _ _ (by omega), rotV_bit hx n (by omega)]; simp)) ?_
    refine W.nil ?_
    refine At.thenCode ?_
    refine C.condF rfl ?_
    refine C.skip ?_
    refine At.blockNormal ?_
    refine At.thenCode ?_
    refine C.region ?_
    refine W.move rfl rfl ?_
    first | refine W.addI rfl rfl (by omega) rfl ?_ | refine W.addW rfl rfl rfl ?_
    refine W.assign rfl rfl ?_
    refine W.nil ?_
    refine At.thenRound (i + 1) (Sub.cons (rfl) (Sub.cons (rfl) (Sub.cons (rfl) (Sub.cons (rfl) (Sub.cons (rfl) (Sub.cons (look_eq rfl (by rw [show (i : Int) + 1 = ((i + 1 : Nat) : Int) by omega])) (Sub.nil))))))) (show w11 = _ ∧ (i + 1) ≤ 32 from ?_) (show 32 - (i + 1) < 32 - i from ?_)
    · exact ⟨rfl, by omega⟩
    · omega
  · refine C.exit ?_
    refine At.thenExit ?_
    refine At.thenExit ?_
    refine At.blockSelf ?_
    refine At.thenCode ?_
    refine C.seq ?_
    refine C.region ?_
    refine W.move rfl rfl ?_
    refine W.lssI rfl rfl rfl ?_
    refine W.move rfl rfl ?_
    first | refine W.splitD (fun g47 => ?_) (fun g47 => ?_) | refine W.splitB (fun g47 => ?_) (fun g47 => ?_)
    · refine W.skips rfl rfl rfl rfl rfl rfl ?_
      refine W.skips rfl rfl rfl rfl rfl rfl ?_
      refine W.pickT rfl rfl rfl ?_
      refine W.move rfl rfl ?_
      refine W.skips rfl rfl rfl rfl rfl rfl ?_
      refine W.skips rfl rfl rfl rfl rfl rfl ?_
      refine W.pickT rfl rfl rfl ?_
      refine W.move rfl rfl ?_
      refine W.skips rfl rfl rfl rfl rfl rfl ?_
      refine W.skips rfl rfl rfl rfl rfl rfl ?_
      refine W.pickT rfl rfl rfl ?_
      refine W.move rfl rfl ?_
      refine W.skips rfl rfl rfl rfl rfl rfl ?_
      refine W.skips rfl rfl rfl rfl rfl rfl ?_
      refine W.skips rfl rfl rfl rfl rfl rfl ?_
      refine W.skips rfl rfl rfl rfl rfl rfl ?_
      refine W.skips rfl rfl rfl rfl rfl rfl ?_
      refine W.skips rfl rfl rfl rfl rfl rfl ?_
      refine W.skips rfl rfl rfl rfl rfl rfl ?_
      refine W.skips rfl rfl rfl rfl rfl rfl ?_
      refine W.skips rfl rfl rfl rfl rfl rfl ?_
      refine W.pickT rfl rfl rfl ?_
      refine W.assign rfl rfl ?_
      refine W.nil ?_
      refine At.thenCode ?_
      refine C.ret ?_
      refine At.ret1 Try.results6 rfl ?_
      exact ⟨rfl, hX11.below⟩
    · refine W.wants rfl rfl rfl rfl ?_
      refine W.move rfl rfl ?_
      refine W.wants rfl rfl rfl rfl ?_
      refine W.gtrI rfl rfl rfl ?_
      refine W.pickF rfl rfl rfl ?_
      refine W.move rfl rfl ?_
      first | refine W.splitD (fun g51 => ?_) (fun g51 => ?_) | refine W.splitB (fun g51 => ?_) (fun g51 => ?_)
      · refine W.skips rfl rfl rfl rfl rfl rfl ?_
        refine W.skips rfl rfl rfl rfl rfl rfl ?_
        refine W.pickT rfl rfl rfl ?_
        refine W.move rfl rfl ?_
        refine W.skips rfl rfl rfl rfl rfl rfl ?_
        refine W.skips rfl rfl rfl rfl rfl rfl ?_
        refine W.pickT rfl rfl rfl ?_
        refine W.move rfl rfl ?_
        refine W.skips rfl rfl rfl rfl rfl rfl ?_
        refine W.skips rfl rfl rfl rfl rfl rfl ?_
        refine W.skips rfl rfl rfl rfl rfl rfl ?_
        refine W.skips rfl rfl rfl rfl rfl rfl ?_
        refine W.skips rfl rfl rfl rfl rfl rfl ?_
        refine W.skips rfl rfl rfl rfl rfl rfl ?_
        refine W.skips rfl rfl rfl rfl rfl rfl ?_
        refine W.skips rfl rfl rfl rfl rfl rfl ?_
        refine W.skips rfl rfl rfl rfl rfl rfl ?_
        refine W.pickT rfl rfl rfl ?_
        refine W.assign rfl rfl ?_
        refine W.nil ?_
        refine At.thenCode ?_
        refine C.ret ?_
        refine At.ret1 Try.results6 rfl ?_
        exact ⟨rfl, hX11.below⟩
      · refine W.wants rfl rfl rfl rfl ?_
        refine W.move rfl rfl ?_
        refine W.wants rfl rfl rfl rfl ?_
        refine W.gtrI rfl rfl rfl ?_
        refine W.pickF rfl rfl rfl ?_
        refine W.move rfl rfl ?_
        first | refine W.splitD (fun g55 => ?_) (fun g55 => ?_) | refine W.splitB (fun g55 => ?_) (fun g55 => ?_)
        · refine W.skips rfl rfl rfl rfl rfl rfl ?_
          refine W.skips rfl rfl rfl rfl rfl rfl ?_
          refine W.pickT rfl rfl rfl ?_
          refine W.move rfl rfl ?_
          refine W.skips rfl rfl rfl rfl rfl rfl ?_
          refine W.skips rfl rfl rfl rfl rfl rfl ?_
          refine W.skips rfl rfl rfl rfl rfl rfl ?_
          refine W.skips rfl rfl rfl rfl rfl rfl ?_
          refine W.skips rfl rfl rfl rfl rfl rfl ?_
          refine W.skips rfl rfl rfl rfl rfl rfl ?_
          refine W.skips rfl rfl rfl rfl rfl rfl ?_
          refine W.skips rfl rfl rfl rfl rfl rfl ?_
          refine W.skips rfl rfl rfl rfl rfl rfl ?_
          refine W.pickT rfl rfl rfl ?_
          refine W.assign rfl rfl ?_
          refine W.nil ?_
          refine At.thenCode ?_
          refine C.ret ?_
          refine At.ret1 Try.results6 rfl ?_
          exact ⟨rfl, hX11.below⟩
        · refine W.wants rfl rfl rfl rfl ?_
          refine W.move rfl rfl ?_
          refine W.wants rfl rfl rfl rfl ?_
          refine W.lssI rfl rfl rfl ?_
          refine W.pickF rfl rfl rfl ?_
          refine W.move rfl rfl ?_
          first | refine W.splitD (fun g59 => ?_) (fun g59 => ?_) | refine W.splitB (fun g59 => ?_) (fun g59 => ?_)
          · refine W.skips rfl rfl rfl rfl rfl rfl ?_
            refine W.skips rfl rfl rfl rfl rfl rfl ?_
            refine W.skips rfl rfl rfl rfl rfl rfl ?_
            refine W.skips rfl rfl rfl rfl rfl rfl ?_
            refine W.skips rfl rfl rfl rfl rfl rfl ?_
            refine W.skips rfl rfl rfl rfl rfl rfl ?_
            refine W.skips rfl rfl rfl rfl rfl rfl ?_
            refine W.skips rfl rfl rfl rfl rfl rfl ?_
            refine W.skips rfl rfl rfl rfl rfl rfl ?_
            refine W.pickT rfl rfl rfl ?_
            refine W.assign rfl rfl ?_
            refine W.nil ?_
            refine At.thenCode ?_
            refine C.ret ?_
            refine At.ret1 Try.results6 rfl ?_
            exact ⟨rfl, hX11.below⟩
          · refine W.wants rfl rfl rfl rfl ?_
            refine W.move rfl rfl ?_
            refine W.wants rfl rfl rfl rfl ?_
            refine W.move rfl rfl ?_
            refine W.wants rfl rfl rfl rfl ?_
            refine W.call Try.call21 rfl (Words.Rot_ok _ _ _) rfl ?_
            rintro v w' ⟨rfl, rfl⟩
            refine W.wants rfl rfl rfl rfl ?_
            refine W.move rfl rfl ?_
            refine W.wants rfl rfl rfl rfl ?_
            refine W.move rfl rfl ?_
            refine W.wants rfl rfl rfl rfl ?_
            refine W.move rfl rfl ?_
            refine W.wants rfl rfl rfl rfl ?_
            first | refine W.addI rfl rfl (by omega) rfl ?_ | refine W.addW rfl rfl rfl ?_
            refine W.wants rfl rfl rfl rfl ?_
            refine W.call Try.call21 rfl (Words.Rot_ok _ _ _) rfl ?_
            rintro v w' ⟨rfl, rfl⟩
            refine W.wants rfl rfl rfl rfl ?_
            refine W.eqlU rfl rfl rfl ?_
            refine W.eqv (bT (by rw [rotV_rotV hx])) ?_
            refine W.pickF rfl rfl rfl ?_
            refine W.assign rfl rfl ?_
            refine W.nil ?_
            refine At.thenCode ?_
            refine C.ret ?_
            refine At.ret1 Try.results6 rfl ?_
            exact ⟨rfl, hX11.below⟩
theorem WordsNarrow_walk (n b : Int) (s : Bool) (hn : -9223372036854775808 ≤ n ∧ n ≤ 9223372036854775807) (hb : -9223372036854775808 ≤ b ∧ b ≤ 9223372036854775807) (w : World) :
    Ct Try.prog 3 #[.int .i64 n, .int .i64 b, .bool s] w (LawOk w) := by
  refine Ct.enter [(0, .int .i64 n), (1, .int .i64 b), (2, .bool s)] Try.func3 rfl rfl rfl rfl ?_
  refine C.seq ?_
  refine C.region ?_
  refine W.assign rfl rfl ?_
  refine W.nil ?_
  refine At.thenCode ?_
  refine C.seq ?_
  refine C.region ?_
  refine W.call Try.call9 rfl (alive_ok _) rfl ?_
  rintro v w14 ⟨rfl, hX14⟩
  refine W.assign rfl rfl ?_
  refine W.nil ?_
  refine At.thenCode ?_
  refine C.seq ?_
  refine C.seq ?_
  refine C.region ?_
  refine W.move rfl rfl ?_
  first | refine W.notD rfl rfl ?_ | refine W.notB rfl rfl ?_
  refine W.nil ?_
  refine At.thenCode ?_
  refine C.condF rfl ?_
  refine C.skip ?_
  refine At.thenCode ?_
  refine C.seq ?_
  refine C.region ?_
  refine W.move rfl rfl ?_
  refine W.move rfl rfl ?_
  refine W.move rfl rfl ?_
  refine W.call Try.call10 rfl (Words.Narrow_ok _ _ _ _ (by omega)) rfl ?_
  rintro v w' ⟨rfl, rfl⟩
  refine W.move rfl rfl ?_
  refine W.extract rfl rfl rfl ?_
  refine W.extract rfl rfl rfl ?_
  refine W.assign rfl rfl ?_
  refine W.assign rfl rfl ?_
  refine W.nil ?_
  refine At.thenCode ?_
  refine C.seq ?_
  refine C.region ?_
  refine W.move rfl rfl ?_
  refine W.move rfl rfl ?_
  refine W.move rfl rfl ?_
  refine W.call Try.call11 rfl (Words.RNarrow_ok _ _ _ _ (by omega)) rfl ?_
  rintro v w' ⟨rfl, rfl⟩
  refine W.move rfl rfl ?_
  refine W.extract rfl rfl rfl ?_
  refine W.extract rfl rfl rfl ?_
  refine W.assign rfl rfl ?_
  refine W.assign rfl rfl ?_
  refine W.nil ?_
  refine At.thenCode ?_
  refine C.seq ?_
  refine C.seq ?_
  refine C.region ?_
  refine W.move rfl rfl ?_
  refine W.move rfl rfl ?_
  refine W.neqI rfl rfl rfl ?_
  refine W.eqv (bF (by simp)) ?_
  refine W.move rfl rfl ?_
  refine W.wants rfl rfl rfl rfl ?_
  refine W.move rfl rfl ?_
  refine W.wants rfl rfl rfl rfl ?_
  refine W.call Try.call12 rfl (num_ok _ _) rfl ?_
  rintro v w' ⟨rfl, rfl⟩
  refine W.wants rfl rfl rfl rfl ?_
  refine W.move rfl rfl ?_
  refine W.wants rfl rfl rfl rfl ?_
  refine W.neqI rfl rfl rfl ?_
  refine W.eqv (bF (by simp)) ?_
  refine W.pickF rfl rfl rfl ?_
  refine W.nil ?_
  refine At.thenCode ?_
  refine C.condF rfl ?_
  refine C.skip ?_
  refine At.thenCode ?_
  refine C.seq ?_
  refine C.seq ?_
  refine C.region ?_
  refine W.move rfl rfl ?_
  refine W.neqI rfl rfl rfl ?_
  refine W.move rfl rfl ?_
  first | refine W.splitD (fun g43 => ?_) (fun g43 => ?_) | refine W.splitB (fun g43 => ?_) (fun g43 => ?_)
  · refine W.skips rfl rfl rfl rfl rfl rfl ?_
    refine W.skips rfl rfl rfl rfl rfl rfl ?_
    refine W.pickT rfl rfl rfl ?_
    refine W.nil ?_
    refine At.thenCode ?_
    refine C.condT rfl ?_
    refine C.seq ?_
    refine C.region ?_
    refine W.assign rfl rfl ?_
    refine W.nil ?_
    refine At.thenCode ?_
    refine C.ret ?_
    refine At.thenRet ?_
    refine At.ret1 Try.results3 rfl ?_
    exact ⟨rfl, hX14.below⟩
  · refine W.wants rfl rfl rfl rfl ?_
    refine W.move rfl rfl ?_
    refine W.wants rfl rfl rfl rfl ?_
    refine W.eqlI rfl rfl rfl ?_
    refine W.pickF rfl rfl rfl ?_
    refine W.nil ?_
    refine At.thenCode ?_
    first | refine C.condD rfl (fun c46 => ?_) (fun c46 => ?_) | refine C.cond rfl (fun c46 => ?_) (fun c46 => ?_)
    · refine C.seq ?_
      refine C.region ?_
      refine W.assign rfl rfl ?_
      refine W.nil ?_
      refine At.thenCode ?_
      refine C.ret ?_
      refine At.thenRet ?_
      refine At.ret1 Try.results3 rfl ?_
      exact ⟨rfl, hX14.below⟩
    · refine C.skip ?_
      refine At.thenCode ?_
      refine C.seq ?_
      refine C.region ?_
      obtain ⟨a, hba, hp⟩ : ∃ a : Int, ((b = 8 ∧ a = 256) ∨ (b = 16 ∧ a = 65536) ∨ (b = 32 ∧ a = 4294967296)) ∧ ((1 : Int) * 2 ^ b.toNat = a ∧ a = ((2 ^ b.toNat : Nat) : Int)) := by
        have h0 : narE b = 0 := by omega
        have h1 : b = 8 ∨ b = 16 ∨ b = 32 ∨ b = 64 := by unfold narE at h0; split at h0 <;> omega
        rcases (show b = 8 ∨ b = 16 ∨ b = 32 by omega) with rfl | rfl | rfl
        · exact ⟨256, by omega, rfl, rfl⟩
        · exact ⟨65536, by omega, rfl, rfl⟩
        · exact ⟨4294967296, by omega, rfl, rfl⟩
      obtain ⟨hV, hE⟩ := narV_of (n := n) (s := s) hba
      obtain ⟨hV2, _⟩ := narV_of (n := narV n b s) (s := s) hba
      obtain ⟨hr, hr1, hr2, hr3⟩ := narA_range (n := n) (s := s) (show a = 256 ∨ a = 65536 ∨ a = 4294967296 by omega)
      have hbs : 0 ≤ b ∧ b ≤ 32 := by omega
      have has : 256 ≤ a ∧ a ≤ 4294967296 := by omega
      rw [← hV] at hr hr3
      refine W.move rfl rfl ?_
      refine W.move rfl rfl ?_
      refine W.move rfl rfl ?_
      refine W.call Try.call10 rfl (Words.Narrow_ok _ _ _ _ (by omega)) rfl ?_
      rintro v w' ⟨rfl, rfl⟩
      refine W.move rfl rfl ?_
      refine W.extract rfl rfl rfl ?_
      refine W.extract rfl rfl rfl ?_
      refine W.assign rfl rfl ?_
      refine W.assign rfl rfl ?_
      refine W.nil ?_
      refine At.thenCode ?_
      refine C.seq ?_
      refine C.region ?_
      refine W.move rfl rfl ?_
      refine W.call Try.call12 rfl (num_ok _ _) rfl ?_
      rintro v w' ⟨rfl, rfl⟩
      refine W.eqlI rfl rfl rfl ?_
      refine W.eqv (bT (hE)) ?_
      refine W.move rfl rfl ?_
      refine W.wants rfl rfl rfl rfl ?_
      refine W.move rfl rfl ?_
      refine W.wants rfl rfl rfl rfl ?_
      refine W.move rfl rfl ?_
      refine W.wants rfl rfl rfl rfl ?_
      refine W.eqlI rfl rfl rfl ?_
      refine W.eqv (bT (by rw [hV2, hV]; exact hr2)) ?_
      refine W.pickT rfl rfl rfl ?_
      refine W.move rfl rfl ?_
      refine W.wants rfl rfl rfl rfl ?_
      refine W.move rfl rfl ?_
      refine W.wants rfl rfl rfl rfl ?_
      refine W.move rfl rfl ?_
      refine W.wants rfl rfl rfl rfl ?_
      refine W.subW rfl rfl rfl ?_
      refine W.wants rfl rfl rfl rfl ?_
      refine W.move rfl rfl ?_
      refine W.wants rfl rfl rfl rfl ?_
      refine W.convIN (M := 18446744073709551616) rfl Try.underlying3 Try.underlying29 rfl rfl (by omega) rfl ?_
      refine W.wants rfl rfl rfl rfl ?_
      refine W.shlI rfl rfl (by omega) (by rw [hp.1]; omega) rfl ?_
      rw [hp.1]
      refine W.wants rfl rfl rfl rfl ?_
      first | refine W.subI rfl rfl (by omega) rfl ?_ | refine W.subW rfl rfl rfl ?_
      refine W.wants rfl rfl rfl rfl ?_
      refine W.maskI b.toNat rfl rfl (by have := Nat.two_pow_pos b.toNat; omega) (by omega) rfl ?_
      rw [← hp.2]
      refine W.wants rfl rfl rfl rfl ?_
      refine W.eqlI rfl rfl rfl ?_
      refine W.eqv (bT (by rcases hba with ⟨_, rfl⟩ | ⟨_, rfl⟩ | ⟨_, rfl⟩ <;> (simp [IntKind.wrap, IntKind.bits, IntKind.signed]; split <;> omega))) ?_
      refine W.pickT rfl rfl rfl ?_
      refine W.assign rfl rfl ?_
      refine W.nil ?_
      refine At.thenCode ?_
      refine C.ret ?_
      refine At.ret1 Try.results3 rfl ?_
      exact ⟨rfl, hX14.below⟩
theorem WordsGet_walk (ao : Option Addr) (c : Nat) (xs : List UInt8) (at_ : Int) (w : World) (hS : Bs w ao c xs) (hl : xs.length ≤ 9223372036854775807) (hat : -9223372036854775808 ≤ at_ ∧ at_ ≤ 9223372036854775807) :
    Ct Try.prog 8 #[.slice ao xs.length c, .int .i64 at_] w (LawOk w) := by
  refine Ct.enter [(0, .slice ao xs.length c), (1, .int .i64 at_)] Try.func8 rfl rfl rfl rfl ?_
  refine C.seq ?_
  refine C.region ?_
  refine W.assign rfl rfl ?_
  refine W.nil ?_
  refine At.thenCode ?_
  refine C.seq ?_
  refine C.region ?_
  refine W.call Try.call9 rfl (alive_ok _) rfl ?_
  rintro v w14 ⟨rfl, hX14⟩
  have hS := hS.ext hX14
  refine W.assign rfl rfl ?_
  refine W.nil ?_
  refine At.thenCode ?_
  refine C.seq ?_
  refine C.seq ?_
  refine C.region ?_
  refine W.move rfl rfl ?_
  first | refine W.notD rfl rfl ?_ | refine W.notB rfl rfl ?_
  refine W.move rfl rfl ?_
  refine W.wants rfl rfl rfl rfl ?_
  refine W.move rfl rfl ?_
  refine W.wants rfl rfl rfl rfl ?_
  refine W.lenS rfl Try.underlying45 rfl ?_
  refine W.wants rfl rfl rfl rfl ?_
  refine W.gtrI rfl rfl rfl ?_
  refine W.pickF rfl rfl rfl ?_
  refine W.nil ?_
  refine At.thenCode ?_
  first | refine C.condD rfl (fun c21 => ?_) (fun c21 => ?_) | refine C.cond rfl (fun c21 => ?_) (fun c21 => ?_)
  · refine C.seq ?_
    refine C.region ?_
    refine W.move rfl rfl ?_
    refine W.assign rfl rfl ?_
    refine W.nil ?_
    refine At.thenCode ?_
    refine C.ret ?_
    refine At.thenRet ?_
    refine At.ret1 Try.results8 rfl ?_
    exact ⟨rfl, hX14.below⟩
  · refine C.skip ?_
    refine At.thenCode ?_
    refine C.seq ?_
    refine C.region ?_
    refine W.move rfl rfl ?_
    refine W.move rfl rfl ?_
    refine W.call Try.call25 rfl (Words.Get32_ok _ _ _ _ _ (by assumption) (by first | omega | (simp; done)) (by omega)) rfl ?_
    rintro v w' ⟨rfl, rfl⟩
    refine W.move rfl rfl ?_
    refine W.extract rfl rfl rfl ?_
    refine W.extract rfl rfl rfl ?_
    refine W.assign rfl rfl ?_
    refine W.assign rfl rfl ?_
    refine W.nil ?_
    refine At.thenCode ?_
    refine C.seq ?_
    refine C.region ?_
    refine W.move rfl rfl ?_
    refine W.move rfl rfl ?_
    refine W.call Try.call29 rfl (Words.RGet32_ok _ _ _ _ _ (by assumption) (by first | omega | (simp; done)) (by omega)) rfl ?_
    rintro v w' ⟨rfl, rfl⟩
    refine W.move rfl rfl ?_
    refine W.extract rfl rfl rfl ?_
    refine W.extract rfl rfl rfl ?_
    refine W.assign rfl rfl ?_
    refine W.assign rfl rfl ?_
    refine W.nil ?_
    refine At.thenCode ?_
    refine C.seq ?_
    refine C.region ?_
    refine W.move rfl rfl ?_
    refine W.move rfl rfl ?_
    refine W.call Try.call26 rfl (Words.Get64_ok _ _ _ _ _ (by assumption) (by first | omega | (simp; done)) (by omega)) rfl ?_
    rintro v w' ⟨rfl, rfl⟩
    refine W.move rfl rfl ?_
    refine W.extract rfl rfl rfl ?_
    refine W.extract rfl rfl rfl ?_
    refine W.assign rfl rfl ?_
    refine W.assign rfl rfl ?_
    refine W.nil ?_
    refine At.thenCode ?_
    refine C.seq ?_
    refine C.region ?_
    refine W.move rfl rfl ?_
    refine W.move rfl rfl ?_
    refine W.call Try.call30 rfl (Words.RGet64_ok _ _ _ _ _ (by assumption) (by first | omega | (simp; done)) (by omega)) rfl ?_
    rintro v w' ⟨rfl, rfl⟩
    refine W.move rfl rfl ?_
    refine W.extract rfl rfl rfl ?_
    refine W.extract rfl rfl rfl ?_
    refine W.assign rfl rfl ?_
    refine W.assign rfl rfl ?_
    refine W.nil ?_
    refine At.thenCode ?_
    refine C.seq ?_
    refine C.region ?_
    refine W.move rfl rfl ?_
    refine W.move rfl rfl ?_
    refine W.eqlU rfl rfl rfl ?_
    refine W.eqv (bT (rfl)) ?_
    refine W.move rfl rfl ?_
    refine W.wants rfl rfl rfl rfl ?_
    refine W.move rfl rfl ?_
    refine W.wants rfl rfl rfl rfl ?_
    refine W.call Try.call12 rfl (num_ok _ _) rfl ?_
    rintro v w' ⟨rfl, rfl⟩
    refine W.wants rfl rfl rfl rfl ?_
    refine W.move rfl rfl ?_
    refine W.wants rfl rfl rfl rfl ?_
    refine W.eqlI rfl rfl rfl ?_
    refine W.eqv (bT (rfl)) ?_
    refine W.pickT rfl rfl rfl ?_
    refine W.move rfl rfl ?_
    refine W.wants rfl rfl rfl rfl ?_
    refine W.move rfl rfl ?_
    refine W.wants rfl rfl rfl rfl ?_
    refine W.move rfl rfl ?_
    refine W.wants rfl rfl rfl rfl ?_
    refine W.eqlU rfl rfl rfl ?_
    refine W.eqv (bT (rfl)) ?_
    refine W.pickT rfl rfl rfl ?_
    refine W.move rfl rfl ?_
    refine W.wants rfl rfl rfl rfl ?_
    refine W.move rfl rfl ?_
    refine W.wants rfl rfl rfl rfl ?_
    refine W.call Try.call12 rfl (num_ok _ _) rfl ?_
    rintro v w' ⟨rfl, rfl⟩
    refine W.wants rfl rfl rfl rfl ?_
    refine W.move rfl rfl ?_
    refine W.wants rfl rfl rfl rfl ?_
    refine W.eqlI rfl rfl rfl ?_
    refine W.eqv (bT (rfl)) ?_
    refine W.pickT rfl rfl rfl ?_
    refine W.assign rfl rfl ?_
    refine W.nil ?_
    refine At.thenCode ?_
    refine C.ret ?_
    refine At.ret1 Try.results8 rfl ?_
    exact ⟨rfl, hX14.below⟩
theorem getE_put (xs ys : List UInt8) (n : Nat) (h : ys.length = n) : getE (xs ++ ys) (xs.length : Int) n = 0 := by
  rw [getE_0, List.length_append]; omega
theorem getV_put (xs ys : List UInt8) (n : Nat) (h : ys.length = n) : getV (xs ++ ys) (xs.length : Int) n = beNat ys := by
  subst h
  rw [getV, if_pos (getE_put xs ys _ rfl), Int.toNat_natCast, List.drop_left, List.take_length]
theorem WordsPut_walk (ao : Option Addr) (c : Nat) (xs : List UInt8) (x y : Nat) (w : World) (hS : Bs w ao c xs) (hl : xs.length ≤ 9223372036854775807) (hx : x < 4294967296) (hy : y < 18446744073709551616) :
    Ct Try.prog 7 #[.slice ao xs.length c, .int .u32 (x : Int), .int .u64 (y : Int)] w (LawOk w) := by
  refine Ct.enter [(0, .slice ao xs.length c), (1, .int .u32 (x : Int)), (2, .int .u64 (y : Int))] Try.func7 rfl rfl rfl rfl ?_
  refine C.seq ?_
  refine C.region ?_
  refine W.assign rfl rfl ?_
  refine W.nil ?_
  refine At.thenCode ?_
  refine C.seq ?_
  refine C.region ?_
  refine W.call Try.call9 rfl (alive_ok _) rfl ?_
  rintro v w14 ⟨rfl, hX14⟩
  have hS := hS.ext hX14
  refine W.assign rfl rfl ?_
  refine W.nil ?_
  refine At.thenCode ?_
  refine C.seq ?_
  refine C.seq ?_
  refine C.region ?_
  refine W.move rfl rfl ?_
  first | refine W.notD rfl rfl ?_ | refine W.notB rfl rfl ?_
  refine W.move rfl rfl ?_
  refine W.wants rfl rfl rfl rfl ?_
  refine W.move rfl rfl ?_
  refine W.wants rfl rfl rfl rfl ?_
  refine W.lenS rfl Try.underlying45 rfl ?_
  refine W.wants rfl rfl rfl rfl ?_
  refine W.gtrI rfl rfl rfl ?_
  refine W.pickF rfl rfl rfl ?_
  refine W.nil ?_
  refine At.thenCode ?_
  first | refine C.condD rfl (fun c21 => ?_) (fun c21 => ?_) | refine C.cond rfl (fun c21 => ?_) (fun c21 => ?_)
  · refine C.seq ?_
    refine C.region ?_
    refine W.move rfl rfl ?_
    refine W.assign rfl rfl ?_
    refine W.nil ?_
    refine At.thenCode ?_
    refine C.ret ?_
    refine At.thenRet ?_
    refine At.ret1 Try.results7 rfl ?_
    exact ⟨rfl, hX14.below⟩
  · refine C.skip ?_
    refine At.thenCode ?_
    refine C.seq ?_
    refine C.region ?_
    refine W.move rfl rfl ?_
    refine W.appendB E8 Try.underlying45 rfl rfl (Ow.nil _ _ 5) hS (by simp; omega) (Nat.le_refl _) rfl ?_
    rw [List.nil_append]
    intro v24 w24 ho24 hg24 _
    have hX24 : Ext w14 w24 := (Chg.of_grown hg24).mono fun k hk => by cases hk
    obtain ⟨ao24, c24, rfl, hS24, hb24⟩ := ownsRow_form ho24
    have hS := hS.ext hX24
    refine W.move rfl rfl ?_
    refine W.call Try.call23 rfl (Words.Put32_ok _ _ _ _ _ hS24 (by omega)) rfl ?_
    rintro v26 w26 ⟨ho26, hX26⟩
    obtain ⟨ao26, c26, rfl, hS26, hb26⟩ := ownsRow_form ho26
    have hS := hS.ext hX26
    refine W.assign rfl rfl ?_
    refine W.nil ?_
    refine At.thenCode ?_
    refine C.seq ?_
    refine C.region ?_
    refine W.move rfl rfl ?_
    refine W.appendB E8 Try.underlying45 rfl rfl (Ow.nil _ _ 5) hS (by simp; omega) (Nat.le_refl _) rfl ?_
    rw [List.nil_append]
    intro v28 w28 ho28 hg28 _
    have hX28 : Ext w26 w28 := (Chg.of_grown hg28).mono fun k hk => by cases hk
    obtain ⟨ao28, c28, rfl, hS28, hb28⟩ := ownsRow_form ho28
    have hS := hS.ext hX28
    have hS26 := hS26.ext hX28
    refine W.move rfl rfl ?_
    refine W.call Try.call24 rfl (Words.Put64_ok _ _ _ _ _ hS28 (by omega)) rfl ?_
    rintro v30 w30 ⟨ho30, hX30⟩
    obtain ⟨ao30, c30, rfl, hS30, hb30⟩ := ownsRow_form ho30
    have hS := hS.ext hX30
    have hS26 := hS26.ext hX30
    have l26 : (xs ++ be32 x).length ≤ 204 := by rw [List.length_append, be32_length]; omega
    have l30 : (xs ++ be64 y).length ≤ 208 := by rw [List.length_append, be64_length]; omega
    refine W.assign rfl rfl ?_
    refine W.nil ?_
    refine At.thenCode ?_
    refine C.seq ?_
    refine C.region ?_
    refine W.move rfl rfl ?_
    refine W.move rfl rfl ?_
    refine W.lenS rfl Try.underlying45 rfl ?_
    refine W.call Try.call25 rfl (Words.Get32_ok _ _ _ _ _ hS26 (by omega) (by omega)) rfl ?_
    rintro v w' ⟨rfl, rfl⟩
    rw [getE_put xs _ 4 (be32_length x), getV_put xs _ 4 (be32_length x), beNat_be32 x hx]
    refine W.move rfl rfl ?_
    refine W.extract rfl rfl rfl ?_
    refine W.extract rfl rfl rfl ?_
    refine W.assign rfl rfl ?_
    refine W.assign rfl rfl ?_
    refine W.nil ?_
    refine At.thenCode ?_
    refine C.seq ?_
    refine C.region ?_
    refine W.move rfl rfl ?_
    refine W.move rfl rfl ?_
    refine W.lenS rfl Try.underlying45 rfl ?_
    refine W.call Try.call26 rfl (Words.Get64_ok _ _ _ _ _ hS30 (by omega) (by omega)) rfl ?_
    rintro v w' ⟨rfl, rfl⟩
    rw [getE_put xs _ 8 (be64_length y), getV_put xs _ 8 (be64_length y), beNat_be64 y hy]
    refine W.move rfl rfl ?_
    refine W.extract rfl rfl rfl ?_
    refine W.extract rfl rfl rfl ?_
    refine W.assign rfl rfl ?_
    refine W.assign rfl rfl ?_
    refine W.nil ?_
    refine At.thenCode ?_
    refine C.seq ?_
    refine C.regionAny ((fun v w => v = .slice ao26 (xs ++ be32 x).length c26) :: (fun v w => v = strV (xs ++ be32 x)) :: (fun v w => v = .slice ao xs.length c) :: (fun v w => v = .int .u32 (x : Int)) :: (fun v w => ∃ b, Ow w b 5 v (xs ++ be32 x)) :: (fun v w => v = strV (xs ++ be32 x)) :: (fun v w => v = .bool true) :: (fun v w => v = .bool true) :: (fun v w => v = .slice ao30 (xs ++ be64 y).length c30) :: (fun v w => v = strV (xs ++ be64 y)) :: (fun v w => v = .slice ao xs.length c) :: (fun v w => v = .int .u64 (y : Int)) :: (fun v w => ∃ b, Ow w b 5 v (xs ++ be64 y)) :: (fun v w => v = strV (xs ++ be64 y)) :: (fun v w => v = .bool true) :: (fun v w => v = .bool true) :: (fun v w => v = .bool true) :: (fun v w => v = .int .i64 0) :: (fun v w => v = .int .i64 0) :: (fun v w => v = .bool true) :: (fun v w => v = .bool true) :: (fun v w => v = .bool true) :: (fun v w => v = .int .u32 (x : Int)) :: (fun v w => v = .int .u32 (x : Int)) :: (fun v w => v = .bool true) :: (fun v w => v = .bool true) :: (fun v w => v = .bool true) :: (fun v w => v = .int .i64 0) :: (fun v w => v = .int .i64 0) :: (fun v w => v = .bool true) :: (fun v w => v = .bool true) :: (fun v w => v = .bool true) :: (fun v w => v = .int .u64 (y : Int)) :: (fun v w => v = .int .u64 (y : Int)) :: (fun v w => v = .bool true) :: (fun v w => v = .bool true) :: (fun v w => v = .bool true) :: []) [(0, .slice ao xs.length c), (1, .int .u32 (x : Int)), (2, .int .u64 (y : Int)), (8, .slice ao26 (xs ++ be32 x).length c26), (9, .slice ao30 (xs ++ be64 y).length c30), (10, .int .u32 (x : Int)), (11, .int .i64 0), (12, .int .u64 (y : Int)), (13, .int .i64 0)] (Sub.cons (rfl) (Sub.cons (rfl) (Sub.cons (rfl) (Sub.cons (rfl) (Sub.cons (rfl) (Sub.cons (rfl) (Sub.cons (rfl) (Sub.cons (rfl) (Sub.cons (rfl) (Sub.nil)))))))))) (by kernel_rfl) rfl rfl (And.intro (fun _ _ _ h _ => h) (And.intro (fun _ _ _ h _ => h) (And.intro (fun _ _ _ h _ => h) (And.intro (fun _ _ _ h _ => h) (And.intro (fun _ _ _ ⟨b, h⟩ g => ⟨b, ownsRow_ext h g⟩) (And.intro (fun _ _ _ h _ => h) (And.intro (fun _ _ _ h _ => h) (And.intro (fun _ _ _ h _ => h) (And.intro (fun _ _ _ h _ => h) (And.intro (fun _ _ _ h _ => h) (And.intro (fun _ _ _ h _ => h) (And.intro (fun _ _ _ h _ => h) (And.intro (fun _ _ _ ⟨b, h⟩ g => ⟨b, ownsRow_ext h g⟩) (And.intro (fun _ _ _ h _ => h) (And.intro (fun _ _ _ h _ => h) (And.intro (fun _ _ _ h _ => h) (And.intro (fun _ _ _ h _ => h) (And.intro (fun _ _ _ h _ => h) (And.intro (fun _ _ _ h _ => h) (And.intro (fun _ _ _ h _ => h) (And.intro (fun _ _ _ h _ => h) (And.intro (fun _ _ _ h _ => h) (And.intro (fun _ _ _ h _ => h) (And.intro (fun _ _ _ h _ => h) (And.intro (fun _ _ _ h _ => h) (And.intro (fun _ _ _ h _ => h) (And.intro (fun _ _ _ h _ => h) (And.intro (fun _ _ _ h _ => h) (And.intro (fun _ _ _ h _ => h) (And.intro (fun _ _ _ h _ => h) (And.intro (fun _ _ _ h _ => h) (And.intro (fun _ _ _ h _ => h) (And.intro (fun _ _ _ h _ => h) (And.intro (fun _ _ _ h _ => h) (And.intro (fun _ _ _ h _ => h) (And.intro (fun _ _ _ h _ => h) (And.intro (fun _ _ _ h _ => h) (trivial)))))))))))))))))))))))))))))))))))))) ?_ ?_
    · refine And.intro ?_ ?_
      · intro L_ w8 hX_ hs_ hd_
        refine W.step [(8, _)] (Sub.cons (hs_ _ _ rfl) (Sub.refl _)) ?_
        refine W.move rfl rfl ?_
        refine W.nil ?_
        exact At.step (Ext.refl _) rfl
      refine And.intro ?_ ?_
      · intro L_ w8 hX_ hs_ hd_
        obtain ⟨v0, e0, r0⟩ := hd_ 0 rfl
        obtain rfl : v0 = .slice ao26 (xs ++ be32 x).length c26 := r0
        refine W.step [(45, _)] (Sub.cons e0 (Sub.refl _)) ?_
        refine W.bytesStr Try.underlying45 Try.underlying5 Try.underlying9 rfl (hS26.ext hX_) rfl ?_
        refine W.nil ?_
        exact At.step (Ext.refl _) rfl
      refine And.intro ?_ ?_
      · intro L_ w8 hX_ hs_ hd_
        refine W.step [(0, _)] (Sub.cons (hs_ _ _ rfl) (Sub.refl _)) ?_
        refine W.move rfl rfl ?_
        refine W.nil ?_
        exact At.step (Ext.refl _) rfl
      refine And.intro ?_ ?_
      · intro L_ w8 hX_ hs_ hd_
        refine W.step [(1, _)] (Sub.cons (hs_ _ _ rfl) (Sub.refl _)) ?_
        refine W.move rfl rfl ?_
        refine W.nil ?_
        exact At.step (Ext.refl _) rfl
      refine And.intro ?_ ?_
      · intro L_ w8 hX_ hs_ hd_
        obtain ⟨v2, e2, r2⟩ := hd_ 2 rfl
        obtain rfl : v2 = .slice ao xs.length c := r2
        obtain ⟨v3, e3, r3⟩ := hd_ 3 rfl
        obtain rfl : v3 = .int .u32 (x : Int) := r3
        refine W.step [(47, _), (48, _)] (Sub.cons e2 (Sub.cons e3 (Sub.refl _))) ?_
        refine W.call Try.call27 rfl (Words.RPut32_ok _ _ _ _ _ (hS.ext hX_) (by omega)) rfl ?_
        rintro v49 w49 ⟨hO49, hX49⟩
        refine W.nil ?_
        exact At.step hX49 ⟨_, hO49⟩
      refine And.intro ?_ ?_
      · intro L_ w8 hX_ hs_ hd_
        obtain ⟨v4, e4, r4⟩ := hd_ 4 rfl
        obtain ⟨b4, r4⟩ := r4
        obtain ⟨ao4, c4, rfl, hS4, hb4⟩ := ownsRow_form r4
        refine W.step [(49, _)] (Sub.cons e4 (Sub.refl _)) ?_
        refine W.bytesStr Try.underlying45 Try.underlying5 Try.underlying9 rfl hS4 rfl ?_
        refine W.nil ?_
        exact At.step (Ext.refl _) rfl
      refine And.intro ?_ ?_
      · intro L_ w8 hX_ hs_ hd_
        obtain ⟨v1, e1, r1⟩ := hd_ 1 rfl
        obtain rfl : v1 = strV (xs ++ be32 x) := r1
        obtain ⟨v5, e5, r5⟩ := hd_ 5 rfl
        obtain rfl : v5 = strV (xs ++ be32 x) := r5
        refine W.step [(46, _), (50, _)] (Sub.cons e1 (Sub.cons e5 (Sub.refl _))) ?_
        refine W.eqlStr rfl rfl rfl ?_
        refine W.eqv (bT (rfl)) ?_
        refine W.nil ?_
        exact At.step (Ext.refl _) rfl
      refine And.intro ?_ ?_
      · intro L_ w8 hX_ hs_ hd_
        obtain ⟨v6, e6, r6⟩ := hd_ 6 rfl
        obtain rfl : v6 = .bool true := r6
        refine W.step [(51, _)] (Sub.cons e6 (Sub.refl _)) ?_
        refine W.move rfl rfl ?_
        refine W.nil ?_
        exact At.step (Ext.refl _) rfl
      refine And.intro ?_ ?_
      · intro L_ w8 hX_ hs_ hd_
        obtain ⟨v7, e7, r7⟩ := hd_ 7 rfl
        obtain rfl : v7 = .bool true := r7
        refine W.step [(9, _), (52, _)] (Sub.cons (hs_ _ _ rfl) (Sub.cons e7 (Sub.refl _))) ?_
        refine W.wants rfl rfl rfl rfl ?_
        refine W.move rfl rfl ?_
        refine W.nil ?_
        exact At.step (Ext.refl _) rfl
      refine And.intro ?_ ?_
      · intro L_ w8 hX_ hs_ hd_
        obtain ⟨v8, e8, r8⟩ := hd_ 8 rfl
        obtain rfl : v8 = .slice ao30 (xs ++ be64 y).length c30 := r8
        obtain ⟨v7, e7, r7⟩ := hd_ 7 rfl
        obtain rfl : v7 = .bool true := r7
        refine W.step [(53, _), (52, _)] (Sub.cons e8 (Sub.cons e7 (Sub.refl _))) ?_
        refine W.wants rfl rfl rfl rfl ?_
        refine W.bytesStr Try.underlying45 Try.underlying5 Try.underlying9 rfl (hS30.ext hX_) rfl ?_
        refine W.nil ?_
        exact At.step (Ext.refl _) rfl
      refine And.intro ?_ ?_
      · intro L_ w8 hX_ hs_ hd_
        obtain ⟨v7, e7, r7⟩ := hd_ 7 rfl
        obtain rfl : v7 = .bool true := r7
        refine W.step [(0, _), (52, _)] (Sub.cons (hs_ _ _ rfl) (Sub.cons e7 (Sub.refl _))) ?_
        refine W.wants rfl rfl rfl rfl ?_
        refine W.move rfl rfl ?_
        refine W.nil ?_
        exact At.step (Ext.refl _) rfl
      refine And.intro ?_ ?_
      · intro L_ w8 hX_ hs_ hd_
        obtain ⟨v7, e7, r7⟩ := hd_ 7 rfl
        obtain rfl : v7 = .bool true := r7
        refine W.step [(2, _), (52, _)] (Sub.cons (hs_ _ _ rfl) (Sub.cons e7 (Sub.refl _))) ?_
        refine W.wants rfl rfl rfl rfl ?_
        refine W.move rfl rfl ?_
        refine W.nil ?_
        exact At.step (Ext.refl _) rfl
      refine And.intro ?_ ?_
      · intro L_ w8 hX_ hs_ hd_
        obtain ⟨v10, e10, r10⟩ := hd_ 10 rfl
        obtain rfl : v10 = .slice ao xs.length c := r10
        obtain ⟨v11, e11, r11⟩ := hd_ 11 rfl
        obtain rfl : v11 = .int .u64 (y : Int) := r11
        obtain ⟨v7, e7, r7⟩ := hd_ 7 rfl
        obtain rfl : v7 = .bool true := r7
        refine W.step [(55, _), (56, _), (52, _)] (Sub.cons e10 (Sub.cons e11 (Sub.cons e7 (Sub.refl _)))) ?_
        refine W.wants rfl rfl rfl rfl ?_
        refine W.call Try.call28 rfl (Words.RPut64_ok _ _ _ _ _ (hS.ext hX_) (by omega)) rfl ?_
        rintro v57 w57 ⟨hO57, hX57⟩
        refine W.nil ?_
        exact At.step hX57 ⟨_, hO57⟩
      refine And.intro ?_ ?_
      · intro L_ w8 hX_ hs_ hd_
        obtain ⟨v12, e12, r12⟩ := hd_ 12 rfl
        obtain ⟨b12, r12⟩ := r12
        obtain ⟨ao12, c12, rfl, hS12, hb12⟩ := ownsRow_form r12
        obtain ⟨v7, e7, r7⟩ := hd_ 7 rfl
        obtain rfl : v7 = .bool true := r7
        refine W.step [(57, _), (52, _)] (Sub.cons e12 (Sub.cons e7 (Sub.refl _))) ?_
        refine W.wants rfl rfl rfl rfl ?_
        refine W.bytesStr Try.underlying45 Try.underlying5 Try.underlying9 rfl hS12 rfl ?_
        refine W.nil ?_
        exact At.step (Ext.refl _) rfl
      refine And.intro ?_ ?_
      · intro L_ w8 hX_ hs_ hd_
        obtain ⟨v9, e9, r9⟩ := hd_ 9 rfl
        obtain rfl : v9 = strV (xs ++ be64 y) := r9
        obtain ⟨v13, e13, r13⟩ := hd_ 13 rfl
        obtain rfl : v13 = strV (xs ++ be64 y) := r13
        obtain ⟨v7, e7, r7⟩ := hd_ 7 rfl
        obtain rfl : v7 = .bool true := r7
        refine W.step [(54, _), (58, _), (52, _)] (Sub.cons e9 (Sub.cons e13 (Sub.cons e7 (Sub.refl _)))) ?_
        refine W.wants rfl rfl rfl rfl ?_
        refine W.eqlStr rfl rfl rfl ?_
        refine W.eqv (bT (rfl)) ?_
        refine W.nil ?_
        exact At.step (Ext.refl _) rfl
      refine And.intro ?_ ?_
      · intro L_ w8 hX_ hs_ hd_
        obtain ⟨v7, e7, r7⟩ := hd_ 7 rfl
        obtain rfl : v7 = .bool true := r7
        obtain ⟨v14, e14, r14⟩ := hd_ 14 rfl
        obtain rfl : v14 = .bool true := r14
        refine W.step [(52, _), (59, _)] (Sub.cons e7 (Sub.cons e14 (Sub.refl _))) ?_
        refine W.pickT rfl rfl rfl ?_
        refine W.nil ?_
        exact At.step (Ext.refl _) rfl
      refine And.intro ?_ ?_
      · intro L_ w8 hX_ hs_ hd_
        obtain ⟨v15, e15, r15⟩ := hd_ 15 rfl
        obtain rfl : v15 = .bool true := r15
        refine W.step [(60, _)] (Sub.cons e15 (Sub.refl _)) ?_
        refine W.move rfl rfl ?_
        refine W.nil ?_
        exact At.step (Ext.refl _) rfl
      refine And.intro ?_ ?_
      · intro L_ w8 hX_ hs_ hd_
        obtain ⟨v16, e16, r16⟩ := hd_ 16 rfl
        obtain rfl : v16 = .bool true := r16
        refine W.step [(11, _), (61, _)] (Sub.cons (hs_ _ _ rfl) (Sub.cons e16 (Sub.refl _))) ?_
        refine W.wants rfl rfl rfl rfl ?_
        refine W.move rfl rfl ?_
        refine W.nil ?_
        exact At.step (Ext.refl _) rfl
      refine And.intro ?_ ?_
      · intro L_ w8 hX_ hs_ hd_
        obtain ⟨v17, e17, r17⟩ := hd_ 17 rfl
        obtain rfl : v17 = .int .i64 0 := r17
        obtain ⟨v16, e16, r16⟩ := hd_ 16 rfl
        obtain rfl : v16 = .bool true := r16
        refine W.step [(62, _), (61, _)] (Sub.cons e17 (Sub.cons e16 (Sub.refl _))) ?_
        refine W.wants rfl rfl rfl rfl ?_
        refine W.call Try.call12 rfl (num_ok _ _) rfl ?_
        rintro v w' ⟨rfl, rfl⟩
        refine W.nil ?_
        exact At.step (Ext.refl _) rfl
      refine And.intro ?_ ?_
      · intro L_ w8 hX_ hs_ hd_
        obtain ⟨v18, e18, r18⟩ := hd_ 18 rfl
        obtain rfl : v18 = .int .i64 0 := r18
        obtain ⟨v16, e16, r16⟩ := hd_ 16 rfl
        obtain rfl : v16 = .bool true := r16
        refine W.step [(63, _), (61, _)] (Sub.cons e18 (Sub.cons e16 (Sub.refl _))) ?_
        refine W.wants rfl rfl rfl rfl ?_
        refine W.eqlI rfl rfl rfl ?_
        refine W.eqv (bT (rfl)) ?_
        refine W.nil ?_
        exact At.step (Ext.refl _) rfl
      refine And.intro ?_ ?_
      · intro L_ w8 hX_ hs_ hd_
        obtain ⟨v16, e16, r16⟩ := hd_ 16 rfl
        obtain rfl : v16 = .bool true := r16
        obtain ⟨v19, e19, r19⟩ := hd_ 19 rfl
        obtain rfl : v19 = .bool true := r19
        refine W.step [(61, _), (64, _)] (Sub.cons e16 (Sub.cons e19 (Sub.refl _))) ?_
        refine W.pickT rfl rfl rfl ?_
        refine W.nil ?_
        exact At.step (Ext.refl _) rfl
      refine And.intro ?_ ?_
      · intro L_ w8 hX_ hs_ hd_
        obtain ⟨v20, e20, r20⟩ := hd_ 20 rfl
        obtain rfl : v20 = .bool true := r20
        refine W.step [(65, _)] (Sub.cons e20 (Sub.refl _)) ?_
        refine W.move rfl rfl ?_
        refine W.nil ?_
        exact At.step (Ext.refl _) rfl
      refine And.intro ?_ ?_
      · intro L_ w8 hX_ hs_ hd_
        obtain ⟨v21, e21, r21⟩ := hd_ 21 rfl
        obtain rfl : v21 = .bool true := r21
        refine W.step [(10, _), (66, _)] (Sub.cons (hs_ _ _ rfl) (Sub.cons e21 (Sub.refl _))) ?_
        refine W.wants rfl rfl rfl rfl ?_
        refine W.move rfl rfl ?_
        refine W.nil ?_
        exact At.step (Ext.refl _) rfl
      refine And.intro ?_ ?_
      · intro L_ w8 hX_ hs_ hd_
        obtain ⟨v21, e21, r21⟩ := hd_ 21 rfl
        obtain rfl : v21 = .bool true := r21
        refine W.step [(1, _), (66, _)] (Sub.cons (hs_ _ _ rfl) (Sub.cons e21 (Sub.refl _))) ?_
        refine W.wants rfl rfl rfl rfl ?_
        refine W.move rfl rfl ?_
        refine W.nil ?_
        exact At.step (Ext.refl _) rfl
      refine And.intro ?_ ?_
      · intro L_ w8 hX_ hs_ hd_
        obtain ⟨v22, e22, r22⟩ := hd_ 22 rfl
        obtain rfl : v22 = .int .u32 (x : Int) := r22
        obtain ⟨v23, e23, r23⟩ := hd_ 23 rfl
        obtain rfl : v23 = .int .u32 (x : Int) := r23
        obtain ⟨v21, e21, r21⟩ := hd_ 21 rfl
        obtain rfl : v21 = .bool true := r21
        refine W.step [(67, _), (68, _), (66, _)] (Sub.cons e22 (Sub.cons e23 (Sub.cons e21 (Sub.refl _)))) ?_
        refine W.wants rfl rfl rfl rfl ?_
        refine W.eqlU rfl rfl rfl ?_
        refine W.eqv (bT (rfl)) ?_
        refine W.nil ?_
        exact At.step (Ext.refl _) rfl
      refine And.intro ?_ ?_
      · intro L_ w8 hX_ hs_ hd_
        obtain ⟨v21, e21, r21⟩ := hd_ 21 rfl
        obtain rfl : v21 = .bool true := r21
        obtain ⟨v24, e24, r24⟩ := hd_ 24 rfl
        obtain rfl : v24 = .bool true := r24
        refine W.step [(66, _), (69, _)] (Sub.cons e21 (Sub.cons e24 (Sub.refl _))) ?_
        refine W.pickT rfl rfl rfl ?_
        refine W.nil ?_
        exact At.step (Ext.refl _) rfl
      refine And.intro ?_ ?_
      · intro L_ w8 hX_ hs_ hd_
        obtain ⟨v25, e25, r25⟩ := hd_ 25 rfl
        obtain rfl : v25 = .bool true := r25
        refine W.step [(70, _)] (Sub.cons e25 (Sub.refl _)) ?_
        refine W.move rfl rfl ?_
        refine W.nil ?_
        exact At.step (Ext.refl _) rfl
      refine And.intro ?_ ?_
      · intro L_ w8 hX_ hs_ hd_
        obtain ⟨v26, e26, r26⟩ := hd_ 26 rfl
        obtain rfl : v26 = .bool true := r26
        refine W.step [(13, _), (71, _)] (Sub.cons (hs_ _ _ rfl) (Sub.cons e26 (Sub.refl _))) ?_
        refine W.wants rfl rfl rfl rfl ?_
        refine W.move rfl rfl ?_
        refine W.nil ?_
        exact At.step (Ext.refl _) rfl
      refine And.intro ?_ ?_
      · intro L_ w8 hX_ hs_ hd_
        obtain ⟨v27, e27, r27⟩ := hd_ 27 rfl
        obtain rfl : v27 = .int .i64 0 := r27
        obtain ⟨v26, e26, r26⟩ := hd_ 26 rfl
        obtain rfl : v26 = .bool true := r26
        refine W.step [(72, _), (71, _)] (Sub.cons e27 (Sub.cons e26 (Sub.refl _))) ?_
        refine W.wants rfl rfl rfl rfl ?_
        refine W.call Try.call12 rfl (num_ok _ _) rfl ?_
        rintro v w' ⟨rfl, rfl⟩
        refine W.nil ?_
        exact At.step (Ext.refl _) rfl
      refine And.intro ?_ ?_
      · intro L_ w8 hX_ hs_ hd_
        obtain ⟨v28, e28, r28⟩ := hd_ 28 rfl
        obtain rfl : v28 = .int .i64 0 := r28
        obtain ⟨v26, e26, r26⟩ := hd_ 26 rfl
        obtain rfl : v26 = .bool true := r26
        refine W.step [(73, _), (71, _)] (Sub.cons e28 (Sub.cons e26 (Sub.refl _))) ?_
        refine W.wants rfl rfl rfl rfl ?_
        refine W.eqlI rfl rfl rfl ?_
        refine W.eqv (bT (rfl)) ?_
        refine W.nil ?_
        exact At.step (Ext.refl _) rfl
      refine And.intro ?_ ?_
      · intro L_ w8 hX_ hs_ hd_
        obtain ⟨v26, e26, r26⟩ := hd_ 26 rfl
        obtain rfl : v26 = .bool true := r26
        obtain ⟨v29, e29, r29⟩ := hd_ 29 rfl
        obtain rfl : v29 = .bool true := r29
        refine W.step [(71, _), (74, _)] (Sub.cons e26 (Sub.cons e29 (Sub.refl _))) ?_
        refine W.pickT rfl rfl rfl ?_
        refine W.nil ?_
        exact At.step (Ext.refl _) rfl
      refine And.intro ?_ ?_
      · intro L_ w8 hX_ hs_ hd_
        obtain ⟨v30, e30, r30⟩ := hd_ 30 rfl
        obtain rfl : v30 = .bool true := r30
        refine W.step [(75, _)] (Sub.cons e30 (Sub.refl _)) ?_
        refine W.move rfl rfl ?_
        refine W.nil ?_
        exact At.step (Ext.refl _) rfl
      refine And.intro ?_ ?_
      · intro L_ w8 hX_ hs_ hd_
        obtain ⟨v31, e31, r31⟩ := hd_ 31 rfl
        obtain rfl : v31 = .bool true := r31
        refine W.step [(12, _), (76, _)] (Sub.cons (hs_ _ _ rfl) (Sub.cons e31 (Sub.refl _))) ?_
        refine W.wants rfl rfl rfl rfl ?_
        refine W.move rfl rfl ?_
        refine W.nil ?_
        exact At.step (Ext.refl _) rfl
      refine And.intro ?_ ?_
      · intro L_ w8 hX_ hs_ hd_
        obtain ⟨v31, e31, r31⟩ := hd_ 31 rfl
        obtain rfl : v31 = .bool true := r31
        refine W.step [(2, _), (76, _)] (Sub.cons (hs_ _ _ rfl) (Sub.cons e31 (Sub.refl _))) ?_
        refine W.wants rfl rfl rfl rfl ?_
        refine W.move rfl rfl ?_
        refine W.nil ?_
        exact At.step (Ext.refl _) rfl
      refine And.intro ?_ ?_
      · intro L_ w8 hX_ hs_ hd_
        obtain ⟨v32, e32, r32⟩ := hd_ 32 rfl
        obtain rfl : v32 = .int .u64 (y : Int) := r32
        obtain ⟨v33, e33, r33⟩ := hd_ 33 rfl
        obtain rfl : v33 = .int .u64 (y : Int) := r33
        obtain ⟨v31, e31, r31⟩ := hd_ 31 rfl
        obtain rfl : v31 = .bool true := r31
        refine W.step [(77, _), (78, _), (76, _)] (Sub.cons e32 (Sub.cons e33 (Sub.cons e31 (Sub.refl _)))) ?_
        refine W.wants rfl rfl rfl rfl ?_
        refine W.eqlU rfl rfl rfl ?_
        refine W.eqv (bT (rfl)) ?_
        refine W.nil ?_
        exact At.step (Ext.refl _) rfl
      refine And.intro ?_ ?_
      · intro L_ w8 hX_ hs_ hd_
        obtain ⟨v31, e31, r31⟩ := hd_ 31 rfl
        obtain rfl : v31 = .bool true := r31
        obtain ⟨v34, e34, r34⟩ := hd_ 34 rfl
        obtain rfl : v34 = .bool true := r34
        refine W.step [(76, _), (79, _)] (Sub.cons e31 (Sub.cons e34 (Sub.refl _))) ?_
        refine W.pickT rfl rfl rfl ?_
        refine W.nil ?_
        exact At.step (Ext.refl _) rfl
      refine And.intro ?_ ?_
      · intro L_ w8 hX_ hs_ hd_
        obtain ⟨v35, e35, r35⟩ := hd_ 35 rfl
        obtain rfl : v35 = .bool true := r35
        refine W.step [(80, _)] (Sub.cons e35 (Sub.refl _)) ?_
        refine W.assign rfl rfl ?_
        refine W.nil ?_
        exact At.step (Ext.refl _) rfl
      exact trivial
    · intro L_ w8 hX8 hs_ hv_
      obtain ⟨v36, e36, r36⟩ := hv_ 36 (by decide)
      obtain rfl : v36 = .bool true := r36
      refine At.weaken (l' := [(6, _), (0, _), (1, _), (2, _), (8, _), (9, _), (10, _), (11, _), (12, _), (13, _)]) (Sub.cons e36 (Sub.cons (hs_ _ _ rfl) (Sub.cons (hs_ _ _ rfl) (Sub.cons (hs_ _ _ rfl) (Sub.cons (hs_ _ _ rfl) (Sub.cons (hs_ _ _ rfl) (Sub.cons (hs_ _ _ rfl) (Sub.cons (hs_ _ _ rfl) (Sub.cons (hs_ _ _ rfl) (Sub.cons (hs_ _ _ rfl) (Sub.nil))))))))))) ?_
      refine At.thenCode ?_
      refine C.ret ?_
      refine At.ret1 Try.results7 rfl ?_
      refine ⟨rfl, ?_⟩
      exact Ext.below (((((hX14.ext hX24).ext hX26).ext hX28).ext hX30).ext hX8)
end Go.Proofs.Ytenjokoialgjbaa.Law1
