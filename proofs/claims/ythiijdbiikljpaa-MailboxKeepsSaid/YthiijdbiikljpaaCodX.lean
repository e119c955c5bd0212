/- The reference's reader. -/
import Derived.Test.YthiijdbiikljpaaCodV
namespace Go.Proofs.Ythiijdbiikljpaa.Cod
open Go Go.RowKit Go.Proofs.Ythiijdbiikljpaa.KW Go.Proofs.Ythiijdbiikljpaa.Words Go.Proofs.Ythiijdbiikljpaa.Grp
set_option linter.unusedVariables false
set_option linter.unusedSimpArgs false
set_option maxRecDepth 100000
theorem numS_take (s : St) : numS s = (if (takeS 8 s).2.1 = 0 then beNat (takeS 8 s).1 else 0, (takeS 8 s).2) := by
  unfold numS takeS
  by_cases h0 : s.1 = 0
  · rw [if_pos h0, if_pos h0]
    by_cases h1 : s.2.length < 8
    · rw [if_pos h1, if_pos h1]; rfl
    · rw [if_neg h1, if_neg h1]; rfl
  · rw [if_neg h0, if_neg h0]; simp [h0]
theorem Rdr.e {w : World} {g : Nat} {q : Option Addr} {c : Nat} {b : List UInt8} {s : St} (h : Rdr w g q c b s) : ∃ p : Nat, Bk w g [.slice q b.length c, .int .i64 (p : Int), .int .i64 (s.1 : Int)] ∧ p ≤ b.length ∧ (s.1 = 0 → s.2 = b.drop p) := by
  obtain ⟨p, e, h1, h2, h3, rfl⟩ := h.out
  exact ⟨p, h1, h2, fun h => by simp only at h; rw [h]; rfl⟩
/-- A key's bytes, the first i of them filled in. -/
theorem key_fill {xs : List UInt8} {i : Nat} (h : xs.length ≤ 32) (hi : i < xs.length) (pre : List Value) : (pre ++ (fillB (xs ++ List.replicate (32 - xs.length) 0) 32 i).map byteV).set (pre.length + i) (byteV (xs[i]'hi)) = pre ++ (fillB (xs ++ List.replicate (32 - xs.length) 0) 32 (i + 1)).map byteV := by
  rw [List.set_append_right _ _ (by omega), show pre.length + i - pre.length = i by omega]
  have hl : (xs ++ List.replicate (32 - xs.length) (0 : UInt8)).length = 32 := by simp; omega
  have := fillB_setV hl (show i < 32 by omega)
  rw [List.getElem_append_left hi] at this
  rw [this]
theorem key_full {xs : List UInt8} (h : xs.length ≤ 32) : fillB (xs ++ List.replicate (32 - xs.length) 0) 32 xs.length = xs ++ List.replicate (32 - xs.length) 0 := by
  unfold fillB
  rw [List.take_left]
end Go.Proofs.Ythiijdbiikljpaa.Cod
