/- Package codec's function that reads a submission. -/
import Derived.Test.YthiijdbiikljpaaCodT
namespace Go.Proofs.Ythiijdbiikljpaa.Cod
open Go Go.RowKit Go.Proofs.Ythiijdbiikljpaa.KW Go.Proofs.Ythiijdbiikljpaa.Words Go.Proofs.Ythiijdbiikljpaa.Grp
set_option linter.unusedVariables false
set_option linter.unusedSimpArgs false
set_option maxRecDepth 100000
/-- A submission's cells. -/
def subL (u : List UInt8) (t : List Value) : List Value := u.map byteV ++ t
def subZ : List Value := [u64V 0, .slice none 0 0, u64V 0, u64V 0, u64V 0, u64V 0]
def zeroSubC : List Value := subL zeros32 subZ
theorem subL_set {u : List UInt8} (h : u.length = 32) (t : List Value) (j : Nat) (v : Value) : (subL u t).set (32 + j) v = subL u (t.set j v) := by
  unfold subL
  rw [List.set_append_right _ _ (by rw [List.length_map]; omega), List.length_map, h, show 32 + j - 32 = j by omega]
theorem subL_splice {u : List UInt8} (h : u.length = 32) : ∀ (vs t : List Value) (j : Nat), KW.splice (subL u t) (32 + j) vs = subL u (KW.splice t j vs) := by
  intro vs
  induction vs with
  | nil => intro t j; rfl
  | cons v r ih =>
    intro t j
    rw [KW.splice, subL_set h, show 32 + j + 1 = 32 + (j + 1) by omega, ih]
    rfl
theorem subL_length {u : List UInt8} (h : u.length = 32) (t : List Value) : (subL u t).length = 32 + t.length := by unfold subL; rw [List.length_append, List.length_map, h]
theorem subL_key {u : List UInt8} (h : u.length = 32) (t : List Value) : KW.splice (subL zeros32 t) 0 (u.map byteV) = subL u t := by
  have := splice_mid (pre := []) (mid := zeros32.map byteV) (post := t) (xs := u.map byteV) (by rw [List.length_map, List.length_map, h]; rfl)
  simpa [subL] using this
theorem subL_one {u : List UInt8} {t : List Value} (h : ∀ v ∈ t, v.oneCell' = true) : ∀ v ∈ subL u t, v.oneCell' = true := by
  intro v hv
  rcases List.mem_append.1 hv with h1 | h1
  · exact bytes_oneCell _ v h1
  · exact h v h1
end Go.Proofs.Ythiijdbiikljpaa.Cod
