/- The reference's functions that write: notes. -/
import Derived.Test.YthiijdbiikljpaaCodY
namespace Go.Proofs.Ythiijdbiikljpaa.Cod
open Go Go.RowKit Go.Proofs.Ythiijdbiikljpaa.KW Go.Proofs.Ythiijdbiikljpaa.Words Go.Proofs.Ythiijdbiikljpaa.Grp
set_option linter.unusedVariables false
set_option linter.unusedSimpArgs false
set_option maxRecDepth 100000
theorem Ow.rep {w : World} {base e : Nat} {v : Value} {xs : List UInt8} (h : Ow w base e v xs) : Rep w v xs := by
  obtain ⟨a, c, rfl, hs, _⟩ := ownsRow_form h
  exact ⟨a, c, rfl, hs⟩
end Go.Proofs.Ythiijdbiikljpaa.Cod
