/- How arguments of chapter 11's types are told to the walks. -/
import Derived.Test.YtkjmllohbohliaaKo2
import Derived.Test.YtkjmllohbohliaaCodG
namespace Go.Proofs.Ytkjmllohbohliaa.Cod
open Go Go.RowKit Go.Proofs.Ytkjmllohbohliaa.KW Go.Proofs.Ytkjmllohbohliaa.Words Go.Proofs.Ytkjmllohbohliaa.Grp Go.ChangeShapes Go.WideShapes
set_option linter.unusedVariables false
set_option maxRecDepth 100000
section
variable {H : Type} {enc : TypeId × Value → H} {w : World} {base : Nat} {spare : Nat → Bool} {held : Bool}
theorem some_of {α : Type} {l : List α} {i : Nat} (h : i < l.length) : ∃ x, l[i]? = some x := ⟨_, List.getElem?_eq_getElem h⟩
theorem cells_Note {fuel : Nat} {cs : List Value} {x : DataW H × List MemPlace} (h : DataW.trod enc Try.prog w base spare held fuel 34 cs = some x) : ∃ n : NoteD, cs = noteC n ∧ NoteOk n := by
  obtain ⟨xs, n, _, _, hl, hlen, hf⟩ := DataW.trod_struct Try.underlying34 h
  have hl : cs.length = 34 := by rw [hl]; kernel_rfl
  have hlen : xs.length = 3 := hlen
  obtain ⟨x0, e0⟩ := some_of (l := xs) (i := 0) (by omega)
  obtain ⟨x1, e1⟩ := some_of (l := xs) (i := 1) (by omega)
  obtain ⟨x2, e2⟩ := some_of (l := xs) (i := 2) (by omega)
  have h0 := (hf 0 _ rfl).trans e0
  have h1 := (hf 1 _ rfl).trans e1
  have h2 := (hf 2 _ rfl).trans e2
  obtain ⟨a, g0, b0⟩ := cells_num (M := M64) rfl rfl Try.underlying32 h0
  obtain ⟨b, g1, b1⟩ := cells_num (M := M64) rfl rfl Try.underlying32 h1
  obtain ⟨k, g2, b2⟩ := cells_key (n := 32) Try.underlying22 Try.underlying5 (by kernel_rfl) (by kernel_rfl) h2
  have c0 : (cs.drop 0).take 1 = [.int .u64 (a : Int)] := g0
  have c1 : (cs.drop 1).take 1 = [.int .u64 (b : Int)] := g1
  have c2 : (cs.drop 2).take 32 = k.map byteV := g2
  refine ⟨⟨a, b, k⟩, ?_, b0, b1, b2⟩
  have e : cs = (cs.drop 0).take 1 ++ ((cs.drop 1).take 1 ++ (cs.drop 2).take 32) := by
    have d2 : (cs.drop 2).take 32 = cs.drop 2 := List.take_of_length_le (by rw [List.length_drop]; omega)
    rw [d2]
    have d1 := List.take_append_drop 1 (cs.drop 1)
    rw [List.drop_drop] at d1
    rw [d1]
    have d0 := List.take_append_drop 1 (cs.drop 0)
    rw [List.drop_drop] at d0
    rw [d0, List.drop_zero]
  rw [e, c0, c1, c2]
  rfl
theorem open_Note {r : Reach} {b0 : Nat} {v : Value} {d : DataW H} {ps : List MemPlace} (hval : Value.okWide Try.prog w r b0 34 v) (hd : DataW.Trod enc Try.prog w base spare held 34 v d ps) : ∃ n : NoteD, v = .agg (noteC n).toArray ∧ NoteOk n := by
  obtain ⟨cs, rfl⟩ := agg_of Try.underlying34 rfl hval
  obtain ⟨fuel, hf⟩ := hd
  obtain ⟨n, e, hn⟩ := cells_Note hf
  have e : cs = noteC n := by simpa [Value.cells] using e
  exact ⟨n, by rw [e], hn⟩
theorem cells_Letter {fuel : Nat} {cs : List Value} {x : DataW H × List MemPlace} (h : DataW.trod enc Try.prog w base spare held fuel 36 cs = some x) : ∃ p : Let, RLet (fun _ => False) w cs p ∧ p.2.length ≤ 9223372036854775807 := by
  obtain ⟨xs, n, _, _, hl, hlen, hf⟩ := DataW.trod_struct Try.underlying36 h
  have hl : cs.length = 33 := by rw [hl]; kernel_rfl
  have hlen : xs.length = 2 := hlen
  obtain ⟨x0, e0⟩ := some_of (l := xs) (i := 0) (by omega)
  obtain ⟨x1, e1⟩ := some_of (l := xs) (i := 1) (by omega)
  have h0 := (hf 0 _ rfl).trans e0
  have h1 := (hf 1 _ rfl).trans e1
  obtain ⟨k, g0, b0⟩ := cells_key (n := 32) Try.underlying23 Try.underlying5 (by kernel_rfl) (by kernel_rfl) h0
  obtain ⟨ao, c, b, g1, hb, b1⟩ := cells_bytes Try.underlying24 Try.underlying5 (by kernel_rfl) h1
  have c0 : (cs.drop 0).take 32 = k.map byteV := g0
  have c1 : (cs.drop 32).take 1 = [.slice ao b.length c] := g1
  have hmx : maxLen ≤ 9223372036854775807 := by decide
  refine ⟨(k, b), ⟨.slice ao b.length c, ?_, ⟨ao, c, rfl, hb, fun _ _ _ h => h⟩, b0⟩, by have := hb.le; show b.length ≤ _; omega⟩
  have e : cs = (cs.drop 0).take 32 ++ (cs.drop 32).take 1 := by
    have d2 : (cs.drop 32).take 1 = cs.drop 32 := List.take_of_length_le (by rw [List.length_drop]; omega)
    rw [d2]
    have d0 := List.take_append_drop 32 (cs.drop 0)
    rw [List.drop_drop] at d0
    rw [d0, List.drop_zero]
  rw [e, c0, c1]
end
end Go.Proofs.Ytkjmllohbohliaa.Cod
