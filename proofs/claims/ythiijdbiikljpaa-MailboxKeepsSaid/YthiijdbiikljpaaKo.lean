/- How an argument that reads as data is told to the walks. -/
import Derived.Test.YthiijdbiikljpaaKn
import Derived.ProofKit
import Derived.OpenShut
namespace Go.Proofs.Ythiijdbiikljpaa.KW
open Go Go.RowKit Go.ChangeShapes Go.WideShapes
set_option linter.unusedVariables false
section
variable {H : Type} {enc : TypeId × Value → H} {P : Program} {w : World} {base : Nat} {spare : Nat → Bool} {held : Bool}
theorem open_u {r : Reach} {b0 : Nat} {t : TypeId} {k : IntKind} {M : Nat} {v : Value} {d : DataW H} {ps : List MemPlace} (hk : modOf k = M) (hM : Nat.blt 0 M = true) (ht : P.underlying t = some (.int k)) (hval : Value.okWide P w r b0 t v) (hd : DataW.Trod enc P w base spare held t v d ps) :
    ∃ n : Nat, v = .int k (n : Int) ∧ n < M := by
  obtain ⟨a, rfl, _, _, hw⟩ := open_int ht hval hd
  obtain ⟨h1, h2⟩ := pow_bits hk hM
  have h3 : ((2 : Int) ^ k.bits) = (M : Int) := by rw [← h1]; simp
  simp only [Lit.wf, IntKind.min, IntKind.max, h2, Bool.false_eq_true, if_false, h3, Bool.and_eq_true, decide_eq_true_eq] at hw
  exact ⟨a.toNat, by rw [Int.toNat_of_nonneg hw.1], by omega⟩
theorem open_i {r : Reach} {b0 : Nat} {t : TypeId} {v : Value} {d : DataW H} {ps : List MemPlace} (ht : P.underlying t = some (.int .i64)) (hval : Value.okWide P w r b0 t v) (hd : DataW.Trod enc P w base spare held t v d ps) :
    ∃ a : Int, v = .int .i64 a ∧ -9223372036854775808 ≤ a ∧ a ≤ 9223372036854775807 := by
  obtain ⟨a, rfl, _, _, hw⟩ := open_int ht hval hd
  have h1 : IntKind.i64.min = -9223372036854775808 := by decide
  have h2 : IntKind.i64.max = 9223372036854775807 := by decide
  simp only [Lit.wf, h1, h2, Bool.and_eq_true, decide_eq_true_eq] at hw
  exact ⟨a, rfl, hw.1, hw.2⟩
theorem open_b {r : Reach} {b0 : Nat} {t : TypeId} {v : Value} {d : DataW H} {ps : List MemPlace} (ht : P.underlying t = some .bool) (hval : Value.okWide P w r b0 t v) (hd : DataW.Trod enc P w base spare held t v d ps) :
    ∃ b : Bool, v = .bool b := by
  obtain ⟨b, rfl, _⟩ := open_bool ht hval hd
  exact ⟨b, rfl⟩
end
end Go.Proofs.Ythiijdbiikljpaa.KW
