/- Package codec's functions that read: entries and submissions. -/
import Derived.Test.YthiijdbiikljpaaCodS
namespace Go.Proofs.Ythiijdbiikljpaa.Cod
open Go Go.RowKit Go.Proofs.Ythiijdbiikljpaa.KW Go.Proofs.Ythiijdbiikljpaa.Words Go.Proofs.Ythiijdbiikljpaa.Grp
set_option linter.unusedVariables false
set_option linter.unusedSimpArgs false
set_option maxRecDepth 100000
theorem NewB.byt {w w' : World} {A : Nat → Prop} {ao : Option Addr} {c : Nat} {xs : List UInt8} (h : NewB w w' ao c xs) (hA : ∀ k, A k → k < w.heap.size) : RByt A w' [.slice ao xs.length c] xs := ⟨ao, c, rfl, h.1, fun ad e hn ha => by have := h.2 ad e hn; have := hA _ ha; omega⟩
theorem elemS_lt' (s : St) : (elemS s).1 < M64 := elemS_lt s
theorem rdEnts_step {k n : Nat} {s : St} (h : s.1 = 0) : rdEnts k (n + 1) s = (((elemS s).1, (takeS k (elemS s).2).1) :: (rdEnts k n (takeS k (elemS s).2).2).1, (rdEnts k n (takeS k (elemS s).2).2).2) := by conv => lhs; unfold rdEnts; rw [if_pos h]
theorem rdEnts_stop {k n : Nat} {s : St} (h : s.1 ≠ 0 ∨ n = 0) : rdEnts k n s = ([], s) := by
  rcases h with h | rfl
  · exact rdEnts_bad h
  · rfl
end Go.Proofs.Ythiijdbiikljpaa.Cod
