/- The reference's functions that write: submissions. -/
import Derived.Test.YthiijdbiikljpaaCodZ
namespace Go.Proofs.Ythiijdbiikljpaa.Cod
open Go Go.RowKit Go.Proofs.Ythiijdbiikljpaa.KW Go.Proofs.Ythiijdbiikljpaa.Words Go.Proofs.Ythiijdbiikljpaa.Grp
set_option linter.unusedVariables false
set_option linter.unusedSimpArgs false
set_option maxRecDepth 100000
theorem Rep.stay {w w' : World} {v : Value} {xs : List UInt8} (h : Rep w v xs) (g : Ext w w') : Rep w' v xs := by
  obtain ⟨a, c, e, h⟩ := h
  exact ⟨a, c, e, h.ext g⟩
end Go.Proofs.Ythiijdbiikljpaa.Cod
