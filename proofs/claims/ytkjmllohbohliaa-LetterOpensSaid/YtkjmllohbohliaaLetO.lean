/- How an argument that is a letter opens. -/
import Derived.Test.YtkjmllohbohliaaCodO
import Derived.Test.YtkjmllohbohliaaLet2
namespace Go.Proofs.Ytkjmllohbohliaa.Let
open Go Go.RowKit Go.ChangeShapes Go.WideShapes Go.Proofs.Ytkjmllohbohliaa.KW Go.Proofs.Ytkjmllohbohliaa.Cod
set_option linter.unusedVariables false
set_option linter.unusedSimpArgs false
set_option maxRecDepth 100000
section
variable {H : Type} {enc : TypeId × Value → H} {w : World} {base : Nat} {spare : Nat → Bool} {held : Bool}
theorem open_Letter {r : Reach} {b0 : Nat} {v : Value} {d : DataW H} {ps : List MemPlace} (hval : Value.okWide Try.prog w r b0 36 v) (hd : DataW.Trod enc Try.prog w base spare held 36 v d ps) : ∃ (k : List UInt8) (ao : Option Addr) (c : Nat) (b : List UInt8), v = .agg (letC k (.slice ao b.length c)).toArray ∧ k.length = 32 ∧ Bs w ao c b ∧ b.length ≤ 9223372036854775807 := by
  obtain ⟨cs, rfl⟩ := agg_of Try.underlying36 rfl hval
  obtain ⟨fuel, hf⟩ := hd
  obtain ⟨⟨k, b⟩, ⟨u, e, hu, hk⟩, hl⟩ := cells_Letter hf
  obtain ⟨ao, c, rfl, hs, _⟩ := RByt.form hu
  have e : cs = letC k (.slice ao b.length c) := by simpa [Value.cells, letC] using e
  exact ⟨k, ao, c, b, by rw [e], hk, hs, hl⟩
end
end Go.Proofs.Ytkjmllohbohliaa.Let
