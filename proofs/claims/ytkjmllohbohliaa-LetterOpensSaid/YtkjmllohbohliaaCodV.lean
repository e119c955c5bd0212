/- Package codec's function that reads a batch. -/
import Derived.Test.YtkjmllohbohliaaCodU
import Derived.Test.YtkjmllohbohliaaCodG
namespace Go.Proofs.Ytkjmllohbohliaa.Cod
open Go Go.RowKit Go.Proofs.Ytkjmllohbohliaa.KW Go.Proofs.Ytkjmllohbohliaa.Words Go.Proofs.Ytkjmllohbohliaa.Grp
set_option linter.unusedVariables false
set_option linter.unusedSimpArgs false
set_option maxRecDepth 100000
theorem rdNums_step {n : Nat} {s : St} : rdNums (n + 1) s = ((numS s).1 :: (rdNums n (numS s).2).1, (rdNums n (numS s).2).2) := rfl
theorem rdLets_step {k n : Nat} {s : St} (h : s.1 = 0) : rdLets k (n + 1) s = (((keyS s).1, (takeS k (keyS s).2).1) :: (rdLets k n (takeS k (keyS s).2).2).1, (rdLets k n (takeS k (keyS s).2).2).2) := by conv => lhs; unfold rdLets; rw [if_pos h]
theorem rdLets_stop {k n : Nat} {s : St} (h : s.1 ≠ 0 ∨ n = 0) : rdLets k n s = ([], s) := by
  rcases h with h | rfl
  · exact rdLets_bad h
  · rfl
/-- What a reader's block holds tells what is left. -/
theorem Rdr.uniq {w : World} {g : Nat} {q : Option Addr} {c : Nat} {b : List UInt8} {s t : St} (h : Rdr w g q c b s) (k : Rdr w g q c b t) : s = t := by
  obtain ⟨p, e, h1, _, _, rfl⟩ := h.out
  obtain ⟨p', e', h2, _, _, rfl⟩ := k.out
  obtain ⟨_, h1⟩ := h1
  obtain ⟨_, h2⟩ := h2
  rw [h1] at h2
  injection h2 with h2
  injection h2 with h3 _ _
  have h3 : [Value.slice q b.length c, .int .i64 (p : Int), .int .i64 (e : Int)] = [Value.slice q b.length c, .int .i64 (p' : Int), .int .i64 (e' : Int)] := congrArg Array.toList h3
  injection h3 with _ h3
  injection h3 with h4 h3
  injection h3 with h5 _
  injection h4 with _ h4
  injection h5 with _ h5
  have h4 : p = p' := by omega
  have h5 : e = e' := by omega
  subst h4; subst h5; rfl
theorem keyS_fix {s : St} {k : Nat} (h : (takeS k (keyS s).2).2 = s) : (keyS s).2 = s := by
  by_cases h0 : s.1 = 0
  · exfalso
    have h1 : (takeS k (keyS s).2).2.1 = 0 := by rw [h]; exact h0
    obtain ⟨g1, g2⟩ := takeS_back h1
    have h2 : (keyS s).2.1 = 0 := by rw [g1]
    obtain ⟨k1, k2, k3⟩ := keyS_ok h2
    have e1 : (keyS s).2.2.length = s.2.length - 32 := by rw [k3]; simp
    have e2 : (keyS s).2.2 = (takeS k (keyS s).2).1 ++ (takeS k (keyS s).2).2.2 := congrArg Prod.snd g1
    have e3 : (takeS k (keyS s).2).2.2.length = s.2.length := by rw [h]
    have e4 := congrArg List.length e2
    rw [List.length_append] at e4
    omega
  · unfold keyS
    rw [takeS_bad h0]
def LitP (w0 : World) (sz : Nat) (cells : List Value) (v : Value) (w : World) : Prop := ∃ g, v = .slice (some ⟨g, 0, none⟩) 1 1 ∧ Sl w (some ⟨g, 0, none⟩) 1 1 sz cells ∧ w0.heap.size ≤ g
theorem LitP.ext {w0 w w' : World} {sz : Nat} {cells : List Value} {v : Value} (h : LitP w0 sz cells v w) (x : Ext w w') : LitP w0 sz cells v w' := by
  obtain ⟨g, h1, h2, h3⟩ := h
  exact ⟨g, h1, h2.ext x, h3⟩
end Go.Proofs.Ytkjmllohbohliaa.Cod
