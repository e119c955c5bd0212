/- The reference's functions that write: rows of entries. -/
import Derived.Test.YthiijdbiikljpaaCodN
import Derived.Test.YthiijdbiikljpaaCodC
namespace Go.Proofs.Ythiijdbiikljpaa.Cod
open Go Go.RowKit Go.Proofs.Ythiijdbiikljpaa.KW Go.Proofs.Ythiijdbiikljpaa.Words Go.Proofs.Ythiijdbiikljpaa.Grp
set_option linter.unusedVariables false
set_option linter.unusedSimpArgs false
set_option maxRecDepth 100000
theorem sizeE_zero {es : List Ent} (h : 0 < es.length) : (es[0]'h).2.length = sizeE es := by
  cases es with
  | nil => simp at h
  | cons p r => rfl
end Go.Proofs.Ythiijdbiikljpaa.Cod
