/- Package codec's functions that write: notes, submissions, batches. -/
import Derived.Test.YtkjmllohbohliaaCodE
namespace Go.Proofs.Ytkjmllohbohliaa.Cod
open Go Go.RowKit Go.Proofs.Ytkjmllohbohliaa.KW Go.Proofs.Ytkjmllohbohliaa.Words Go.Proofs.Ytkjmllohbohliaa.Grp
set_option linter.unusedVariables false
set_option linter.unusedSimpArgs false
set_option maxRecDepth 100000
def noteC (n : NoteD) : List Value := [u64V n.seq, u64V n.ack] ++ n.pay.map byteV
theorem noteC_length {n : NoteD} (h : NoteOk n) : (noteC n).length = 34 := by unfold noteC; simp [h.2.2]
theorem noteC_one (n : NoteD) : ∀ u ∈ noteC n, u.oneCell' = true := by
  intro u hu
  rcases List.mem_append.1 hu with hu | hu
  · simp only [List.mem_cons, List.not_mem_nil, or_false] at hu
    rcases hu with rfl | rfl <;> rfl
  · exact bytes_oneCell _ u hu
/-- Bytes of a block from a place on. -/
theorem Bk.bs {w : World} {g o : Nat} {cs : List Value} {xs : List UInt8} (h : Bk w g cs) (e : (cs.drop o).take xs.length = xs.map byteV) : Bs w (some ⟨g, o, none⟩) xs.length xs := by
  refine ⟨Nat.le_refl _, by simp, (fun e => by cases e), fun ad ea => ?_⟩
  obtain rfl := Option.some.inj ea
  rw [← e]
  exact Bk.cellsN h
/-- A new writer in a row of operations. -/
theorem wr_end {w w' : World} {g base : Nat} {xs : List UInt8} (h : Wr w' g base xs) (hb : w.heap.size ≤ base) : ∃ a c, Bk w' g [.slice a xs.length c] ∧ NewB w w' a c xs := by
  obtain ⟨v, h1, h2, h3⟩ := h.own
  obtain ⟨a, c, rfl, hs, hbb⟩ := ownsRow_form h2
  exact ⟨a, c, h1, hs, fun ad e _ => Nat.le_trans hb (hbb ad e)⟩
theorem Note_ok (n : NoteD) (w : World) (hn : NoteOk n) :
    Ct Try.prog 38 #[.agg (noteC n).toArray] w (fun v w' => ∃ ao' c', v = .slice ao' (noteB n).length c' ∧ NewB w w' ao' c' (noteB n) ∧ Ext w w') := by
  refine Ct.enter [(0, .agg (noteC n).toArray)] Try.func38 rfl rfl rfl rfl ?_
  refine C.seq ?_
  refine C.region ?_
  refine W.box (noteC n) rfl rfl rfl ?_
  intro g1 w1 hg1 hX1 hB1
  refine W.assign rfl rfl ?_
  refine W.nil ?_
  refine At.thenCode ?_
  refine C.seq ?_
  refine C.region ?_
  refine W.buildS (fs := _) [(0, 1)] [.slice none 0 0] [.slice none 0 0] Try.underlying79 (by kernel_rfl) (by kernel_rfl) rfl rfl rfl ?_
  refine W.box [.slice none 0 0] rfl rfl rfl ?_
  intro g5 w5 hg5 hX5 hB5
  have hX5a := hX1.ext hX5
  have hW5 : Wr w5 g5 w.heap.size [] := Wr.mk' (by have := hX1.size; omega) hB5
  have hB1a := hB1.ext hX5
  refine W.assign rfl rfl ?_
  refine W.nil ?_
  refine At.thenCode ?_
  refine C.seq ?_
  refine C.region ?_
  refine W.move rfl rfl ?_
  refine W.fieldB (off := 0) (size := 1) (t := 32) (Fld.of (by kernel_rfl)) rfl rfl rfl ?_
  refine W.loadB (v := u64V n.seq) rfl Try.underlying32 rfl hB1a rfl rfl ?_
  refine W.fieldB (off := 1) (size := 1) (t := 32) (Fld.of (by kernel_rfl)) rfl rfl rfl ?_
  refine W.loadB (v := u64V n.ack) rfl Try.underlying32 rfl hB1a rfl rfl ?_
  refine W.litV ([n.seq, n.ack].map u64V) U64 Try.underlying112 rfl rfl (u64_oneCell _) rfl rfl rfl ?_
  intro g11 w11 hg11 hX11 _ hs11
  have hB1b := hB1a.ext hX11
  have hP11 := hW5.ext hX11
  refine W.call Try.call65 rfl (Cod.put_ok g5 _ _ 2 [n.seq, n.ack] _ _ hP11.wr hs11 (fun ad e _ hc => by obtain rfl := Option.some.inj e; exact hW5.fresh hX11 (k := g11) (by omega) hc) (by simp)) rfl ?_
  rintro v12 w12 ⟨rfl, hP12⟩
  have hX12 := hP12.old hP11.wr (Nat.le_refl _) (hX5a.ext hX11)
  have hB12 := hP12.bk hB1b (fun hc => by
    rcases hP11.ws _ hc with h | h
    · rcases h with rfl | ⟨q, h1, h2⟩
      · have := hB1.lt; omega
      · obtain rfl := Bk.one hB5 h1; cases h2
    · have := hB1a.lt; omega)
  refine W.nil ?_
  refine At.thenCode ?_
  refine C.seq ?_
  refine C.region ?_
  refine W.move rfl rfl ?_
  refine W.fieldB (off := 2) (size := 32) (t := 22) (Fld.of (by kernel_rfl)) rfl rfl rfl ?_
  refine W.sliceA X8 Try.underlying22 rfl rfl ?_
  have hs16 : Bs w12 (some ⟨g1, 2, none⟩) 32 n.pay := by
    have := Bk.bs (o := 2) (xs := n.pay) hB12 (by show (n.pay.map byteV).take n.pay.length = _; rw [List.take_of_length_le (by simp)])
    rwa [hn.2.2] at this
  have hby := Cod.bytes_ok g5 _ (some ⟨g1, 2, none⟩) 32 n.pay _ _ hP12.wr hs16 (by simp [putsL, be64_length]; have := hn.2.2; omega)
  rw [hn.2.2] at hby
  refine W.call Try.call66 rfl hby rfl ?_
  rintro v16 w16 ⟨rfl, hP16⟩
  have hX16 := hP16.old hP12.wr (Nat.le_refl _) hX12
  have hW16 : Wr w16 g5 w.heap.size (noteB n) := by
    have := hP16.wr
    simpa [putsL, noteB] using this
  obtain ⟨aR, cR, hBR, hNR⟩ := wr_end hW16 (Nat.le_refl _)
  refine W.nil ?_
  refine At.thenCode ?_
  refine C.seq ?_
  refine C.region ?_
  refine W.move rfl rfl ?_
  refine W.nilCheck rfl rfl ?_
  refine W.fieldB (off := 0) (size := 1) (t := 24) (Fld.of (by kernel_rfl)) rfl rfl rfl ?_
  refine W.loadB rfl Try.underlying24 rfl (by assumption) rfl rfl ?_
  refine W.assign rfl rfl ?_
  refine W.nil ?_
  refine At.thenCode ?_
  refine C.ret ?_
  refine At.ret1 Try.results38 rfl ?_
  exact ⟨aR, cR, rfl, hNR, hX16⟩
def subC (s : SubD) (v : Value) : List Value := s.user.map byteV ++ [u64V s.x, v, u64V s.c1, u64V s.s1, u64V s.c2, u64V s.s2]
theorem subC_get {s : SubD} {v : Value} (h : s.user.length = 32) (j : Nat) : (subC s v)[32 + j]? = ([u64V s.x, v, u64V s.c1, u64V s.s1, u64V s.c2, u64V s.s2] : List Value)[j]? := by
  unfold subC
  rw [List.getElem?_append_right (by rw [List.length_map]; omega), List.length_map, h]
  congr 1; omega
end Go.Proofs.Ytkjmllohbohliaa.Cod
