/- Package codec's functions that write: notes, submissions, batches. -/
import Derived.Test.YthiijdbiikljpaaCodE
namespace Go.Proofs.Ythiijdbiikljpaa.Cod
open Go Go.RowKit Go.Proofs.Ythiijdbiikljpaa.KW Go.Proofs.Ythiijdbiikljpaa.Words Go.Proofs.Ythiijdbiikljpaa.Grp
set_option linter.unusedVariables false
set_option linter.unusedSimpArgs false
set_option maxRecDepth 100000
def noteC (n : NoteD) : List Value := [u64V n.seq, u64V n.ack] ++ n.pay.map byteV
theorem noteC_length {n : NoteD} (h : NoteOk n) : (noteC n).length = 34 := by unfold noteC; simp [h.2.2]
theorem noteC_one (n : NoteD) : ∀ u ∈ noteC n, u.oneCell' = true := by
  intro u hu
  rcases List.mem_append.1 hu with hu | hu
  · simp only [List.mem_cons, List.not_mem_nil, or_false] at hu
    rcases hu with rfl | rfl <;> rfl
  · exact bytes_oneCell _ u hu
/-- Bytes of a block from a place on. -/
theorem Bk.bs {w : World} {g o : Nat} {cs : List Value} {xs : List UInt8} (h : Bk w g cs) (e : (cs.drop o).take xs.length = xs.map byteV) : Bs w (some ⟨g, o, none⟩) xs.length xs := by
  refine ⟨Nat.le_refl _, by simp, (fun e => by cases e), fun ad ea => ?_⟩
  obtain rfl := Option.some.inj ea
  rw [← e]
  exact Bk.cellsN h
/-- A new writer in a row of operations. -/
theorem wr_end {w w' : World} {g base : Nat} {xs : List UInt8} (h : Wr w' g base xs) (hb : w.heap.size ≤ base) : ∃ a c, Bk w' g [.slice a xs.length c] ∧ NewB w w' a c xs := by
  obtain ⟨v, h1, h2, h3⟩ := h.own
  obtain ⟨a, c, rfl, hs, hbb⟩ := ownsRow_form h2
  exact ⟨a, c, h1, hs, fun ad e _ => Nat.le_trans hb (hbb ad e)⟩
def subC (s : SubD) (v : Value) : List Value := s.user.map byteV ++ [u64V s.x, v, u64V s.c1, u64V s.s1, u64V s.c2, u64V s.s2]
theorem subC_get {s : SubD} {v : Value} (h : s.user.length = 32) (j : Nat) : (subC s v)[32 + j]? = ([u64V s.x, v, u64V s.c1, u64V s.s1, u64V s.c2, u64V s.s2] : List Value)[j]? := by
  unfold subC
  rw [List.getElem?_append_right (by rw [List.length_map]; omega), List.length_map, h]
  congr 1; omega
end Go.Proofs.Ythiijdbiikljpaa.Cod
