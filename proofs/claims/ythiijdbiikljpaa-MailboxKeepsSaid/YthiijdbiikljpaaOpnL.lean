/- How rows of letters and of batches open. -/
import Derived.Test.YthiijdbiikljpaaCodO
namespace Go.Proofs.Ythiijdbiikljpaa.Cod
open Go Go.RowKit Go.ChangeShapes Go.WideShapes Go.Proofs.Ythiijdbiikljpaa.KW
set_option linter.unusedVariables false
set_option linter.unusedSimpArgs false
set_option maxRecDepth 100000
section
variable {H : Type} {enc : TypeId × Value → H} {w : World} {base : Nat} {spare : Nat → Bool} {held : Bool}
theorem open_Letters {r : Reach} {b0 : Nat} {v : Value} {d : DataW H} {ps : List MemPlace} (hval : Value.okWide Try.prog w r b0 31 v) (hd : DataW.Trod enc Try.prog w base spare held 31 v d ps) : ∃ ao c, ∃ es : List Let, v = .slice ao es.length c ∧ Els (fun _ => False) w 33 RLet ao c es ∧ es.length ≤ 9223372036854775807 ∧ ∀ p ∈ es, p.2.length ≤ 9223372036854775807 := by
  obtain ⟨a, len, cap, rfl⟩ := okWide_slice Try.underlying31 hval
  obtain ⟨fuel, hf⟩ := hd
  obtain ⟨ao, c, es, e, hE, hl, hb, _⟩ := cells_Letters hf
  simp [Value.cells] at e
  obtain ⟨rfl, rfl, rfl⟩ := e
  exact ⟨_, _, es, rfl, hE, hl, hb⟩
theorem open_Batches {r : Reach} {b0 : Nat} {v : Value} {d : DataW H} {ps : List MemPlace} (hval : Value.okWide Try.prog w r b0 62 v) (hd : DataW.Trod enc Try.prog w base spare held 62 v d ps) : ∃ ao c, ∃ es : List BatD, v = .slice ao es.length c ∧ Els (fun _ => False) w 4 RBat ao c es ∧ es.length ≤ 9223372036854775807 ∧ ∀ x ∈ es, x.inner.length ≤ 9223372036854775807 ∧ x.lets.length ≤ 9223372036854775807 ∧ ∀ p ∈ x.lets, p.2.length ≤ 9223372036854775807 := by
  obtain ⟨a, len, cap, rfl⟩ := okWide_slice Try.underlying62 hval
  obtain ⟨fuel, hf⟩ := hd
  obtain ⟨ao, c, es, e, hE, hc⟩ := cells_els (R := fun A w cs x => RBat A w cs x ∧ x.inner.length ≤ 9223372036854775807 ∧ x.lets.length ≤ 9223372036854775807 ∧ ∀ p ∈ x.lets, p.2.length ≤ 9223372036854775807) (sz := 4) Try.underlying62 (by kernel_rfl) (fun h => by
    obtain ⟨x, vi, vl, e, h1, h2, h3, h4, h5, h6⟩ := cells_Batch h
    exact ⟨x, ⟨vi, vl, e, h1, h2, h3⟩, h4, h5, h6⟩) hf
  simp [Value.cells] at e
  obtain ⟨rfl, rfl, rfl⟩ := e
  exact ⟨_, _, es, rfl, hE.mono (fun _ _ h => h.1), by have := hE.le; omega, hE.all (fun _ _ h => h.2)⟩
end
end Go.Proofs.Ythiijdbiikljpaa.Cod
