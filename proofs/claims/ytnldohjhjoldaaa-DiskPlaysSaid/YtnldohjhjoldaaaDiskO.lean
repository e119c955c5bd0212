/- How chapter 22's rows of acts are told to the walks. -/
import Derived.Test.YtnldohjhjoldaaaKo2
import Derived.Test.YtnldohjhjoldaaaDisk
namespace Go.Proofs.Ytnldohjhjoldaaa.Disk
open Go Go.RowKit Go.Proofs.Ytnldohjhjoldaaa.KW Go.Proofs.Ytnldohjhjoldaaa.Words Go.ChangeShapes Go.WideShapes
set_option linter.unusedVariables false
set_option maxRecDepth 100000
structure ActD where
  way : Int
  n : Int
  b : List UInt8
  l : List Int
def RAct : RdT ActD := fun A w cs p => ∃ a1 c1 a2 c2, cs = [.int .i64 p.way, .int .i64 p.n, .slice a1 p.b.length c1, .slice a2 p.l.length c2] ∧
  (Bs w a1 c1 p.b ∧ ∀ ad, a1 = some ad → p.b ≠ [] → ¬ A ad.block) ∧ (Zs w a2 c2 p.l ∧ ∀ ad, a2 = some ad → p.l ≠ [] → ¬ A ad.block)
theorem rAct : RdOk RAct := by
  refine ⟨?_, ?_, ?_⟩
  · rintro A w w' cs x ⟨a1, c1, a2, c2, rfl, ⟨h1, n1⟩, ⟨h2, n2⟩⟩ g
    exact ⟨a1, c1, a2, c2, rfl, ⟨h1.chg g (fun ad e hc => n1 ad e (by intro q; rw [q] at hc; exact hc rfl)), n1⟩, ⟨Sl.chg h2 g (fun ad e hc => n2 ad e (by intro q; rw [q] at hc; exact hc rfl)), n2⟩⟩
  · rintro A B w cs x ⟨a1, c1, a2, c2, rfl, ⟨h1, n1⟩, ⟨h2, n2⟩⟩ h
    exact ⟨a1, c1, a2, c2, rfl, ⟨h1, fun ad e hx hB => n1 ad e hx (h _ hB (h1.blk e (by simpa using hx)))⟩, ⟨h2, fun ad e hx hB => n2 ad e hx (h _ hB (Sl.blk h2 e (by simpa using hx)))⟩⟩
  · rintro A w cs x ⟨a1, c1, a2, c2, rfl, _, _⟩ u hu
    simp only [List.mem_cons, List.not_mem_nil, or_false] at hu
    rcases hu with rfl | rfl | rfl | rfl <;> rfl
section
variable {H : Type} {enc : TypeId × Value → H} {w : World} {base : Nat} {spare : Nat → Bool} {held : Bool}
theorem some_of {α : Type} {l : List α} {i : Nat} (h : i < l.length) : ∃ x, l[i]? = some x := ⟨_, List.getElem?_eq_getElem h⟩
theorem four {cs : List Value} {a b c d : Value} (hl : cs.length = 4) (h0 : (cs.drop 0).take 1 = [a]) (h1 : (cs.drop 1).take 1 = [b]) (h2 : (cs.drop 2).take 1 = [c]) (h3 : (cs.drop 3).take 1 = [d]) : cs = [a, b, c, d] := by
  match cs, hl with
  | [p, q, r, s], _ =>
    simp at h0 h1 h2 h3
    rw [h0, h1, h2, h3]
theorem cells_Act {fuel : Nat} {cs : List Value} {x : DataW H × List MemPlace} (h : DataW.trod enc Try.prog w base spare held fuel 40 cs = some x) : ∃ p : ActD, RAct (fun _ => False) w cs p := by
  obtain ⟨xs, n, _, _, hl, hlen, hf⟩ := DataW.trod_struct Try.underlying40 h
  have hl : cs.length = 4 := by rw [hl]; kernel_rfl
  have hlen : xs.length = 4 := hlen
  obtain ⟨x0, e0⟩ := some_of (l := xs) (i := 0) (by omega)
  obtain ⟨x1, e1⟩ := some_of (l := xs) (i := 1) (by omega)
  obtain ⟨x2, e2⟩ := some_of (l := xs) (i := 2) (by omega)
  obtain ⟨x3, e3⟩ := some_of (l := xs) (i := 3) (by omega)
  have h0 := (hf 0 _ rfl).trans e0
  have h1 := (hf 1 _ rfl).trans e1
  have h2 := (hf 2 _ rfl).trans e2
  have h3 := (hf 3 _ rfl).trans e3
  obtain ⟨a, g0, _⟩ := cells_int Try.underlying3 h0
  obtain ⟨b, g1, _⟩ := cells_int Try.underlying3 h1
  obtain ⟨a1, c1, bs, g2, hb, b1⟩ := cells_bytes Try.underlying23 Try.underlying5 (by kernel_rfl) h2
  obtain ⟨a2, c2, zs, g3, hz, _, _⟩ := cells_ints Try.underlying22 Try.underlying3 (by kernel_rfl) h3
  exact ⟨⟨a, b, bs, zs⟩, a1, c1, a2, c2, four hl g0 g1 g2 g3, ⟨hb, fun _ _ _ h => h⟩, hz, fun _ _ _ h => h⟩
theorem open_Acts {r : Reach} {b0 : Nat} {v : Value} {d : DataW H} {ps : List MemPlace} (hval : Value.okWide Try.prog w r b0 36 v) (hd : DataW.Trod enc Try.prog w base spare held 36 v d ps) : ∃ ao c, ∃ es : List ActD, v = .slice ao es.length c ∧ Els (fun _ => False) w 4 RAct ao c es ∧ es.length ≤ 9223372036854775807 := by
  obtain ⟨a, len, cap, rfl⟩ := okWide_slice Try.underlying36 hval
  obtain ⟨fuel, hf⟩ := hd
  obtain ⟨ao, c, es, e, hE, hc⟩ := cells_els (R := RAct) (sz := 4) Try.underlying36 (by kernel_rfl) (fun h => cells_Act h) hf
  simp [Value.cells] at e
  obtain ⟨rfl, rfl, rfl⟩ := e
  exact ⟨_, _, es, rfl, hE, by have := hE.le; omega⟩
end
end Go.Proofs.Ytnldohjhjoldaaa.Disk
