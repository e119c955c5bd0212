/- Package codec's function that writes a batch. -/
import Derived.Test.YtkjmllohbohliaaCodF
namespace Go.Proofs.Ytkjmllohbohliaa.Cod
open Go Go.RowKit Go.Proofs.Ytkjmllohbohliaa.KW Go.Proofs.Ytkjmllohbohliaa.Words Go.Proofs.Ytkjmllohbohliaa.Grp
set_option linter.unusedVariables false
set_option linter.unusedSimpArgs false
set_option maxRecDepth 100000
theorem lets_lens (ls : List Let) : (lenE 1000 (ls.map (·.2.length)) = if 1000 < ls.length ∨ longL ls then 3 else 0) ∧ (ls.map (·.2.length)).headD 0 = sizeL ls ∧ ((ls.map (·.2.length)).all (· == sizeL ls) = true ↔ ∀ p ∈ ls, p.2.length = sizeL ls) := by
  refine ⟨?_, ?_, ?_⟩
  · unfold lenE
    rw [List.length_map]
    have : (∃ k ∈ ls.map (·.2.length), 1048576 < k) ↔ longL ls := by
      unfold longL
      constructor
      · rintro ⟨k, hk, h⟩
        obtain ⟨p, hp, rfl⟩ := List.mem_map.1 hk
        exact ⟨p, hp, h⟩
      · rintro ⟨p, hp, h⟩
        exact ⟨_, List.mem_map.2 ⟨p, hp, rfl⟩, h⟩
    simp only [this]
  · cases ls with
    | nil => rfl
    | cons p r => rfl
  · simp
def batC (x : BatD) (vi vl : Value) : List Value := [.int .i64 x.round, .int .i64 x.chain, vi, vl]
theorem RNums.form {A : Nat → Prop} {w : World} {v : Value} {xs : List Nat} (h : RNums A w [v] xs) : ∃ a c, v = .slice a xs.length c ∧ Us w a c xs ∧ (∀ ad, a = some ad → xs ≠ [] → ¬ A ad.block) ∧ ∀ x ∈ xs, x < M64 := by
  obtain ⟨a, c, e, h1⟩ := h
  exact ⟨a, c, by simpa using e, h1⟩
end Go.Proofs.Ytkjmllohbohliaa.Cod
