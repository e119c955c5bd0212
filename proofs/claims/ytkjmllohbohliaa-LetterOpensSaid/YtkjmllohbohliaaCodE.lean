/- Package codec's functions that write. -/
import Derived.Test.YtkjmllohbohliaaCodD
namespace Go.Proofs.Ytkjmllohbohliaa.Cod
open Go Go.RowKit Go.Proofs.Ytkjmllohbohliaa.KW Go.Proofs.Ytkjmllohbohliaa.Words Go.Proofs.Ytkjmllohbohliaa.Grp
set_option linter.unusedVariables false
set_option linter.unusedSimpArgs false
set_option maxRecDepth 100000
def lenE (most : Nat) (L : List Nat) : Nat := if most < L.length ∨ ∃ k ∈ L, 1048576 < k then 3 else 0
def lenF (most : Nat) (L : List Nat) : Nat := if lenE most L = 0 then L.headD 0 else 0
def lenA (most : Nat) (L : List Nat) : Bool := if lenE most L = 0 then L.all (· == L.headD 0) else false

/-! ### entries -/
theorem ents_lens (es : List Ent) : (lenE 1000 (es.map (·.2.length)) = if 1000 < es.length ∨ longE es then 3 else 0) ∧ (es.map (·.2.length)).headD 0 = sizeE es ∧ ((es.map (·.2.length)).all (· == sizeE es) = true ↔ ∀ p ∈ es, p.2.length = sizeE es) := by
  refine ⟨?_, ?_, ?_⟩
  · unfold lenE
    rw [List.length_map]
    have : (∃ k ∈ es.map (·.2.length), 1048576 < k) ↔ longE es := by
      unfold longE
      constructor
      · rintro ⟨k, hk, h⟩
        obtain ⟨p, hp, rfl⟩ := List.mem_map.1 hk
        exact ⟨p, hp, h⟩
      · rintro ⟨p, hp, h⟩
        exact ⟨_, List.mem_map.2 ⟨p, hp, rfl⟩, h⟩
    simp only [this]
  · cases es with
    | nil => rfl
    | cons p r => rfl
  · simp
theorem Els.get {α : Type} {R : RdT α} {A : Nat → Prop} {w : World} {sz c : Nat} {a : Option Addr} {xs : List α} (h : Els A w sz R a c xs) {i : Nat} (hi : i < xs.length) : ∃ cs, R A w cs (xs[i]'hi) := by
  obtain ⟨es, _, _, he⟩ := h
  exact ⟨_, he i hi⟩
theorem box_len {w : World} {A : Nat → Prop} {v : Value} {b : List UInt8} (h : RByt A w [v] b) (hc : ∀ a n c, v = .slice a n c → c ≤ 9223372036854775807) : b.length ≤ 9223372036854775807 := by
  obtain ⟨a, c, rfl, hs, _⟩ := h.form
  exact Nat.le_trans hs.le (hc _ _ _ rfl)
end Go.Proofs.Ytkjmllohbohliaa.Cod
