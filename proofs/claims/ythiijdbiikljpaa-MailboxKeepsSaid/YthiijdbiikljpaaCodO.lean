/- How arguments of chapter 11's types are told to the walks. -/
import Derived.Test.YthiijdbiikljpaaKo2
import Derived.Test.YthiijdbiikljpaaCodG
namespace Go.Proofs.Ythiijdbiikljpaa.Cod
open Go Go.RowKit Go.Proofs.Ythiijdbiikljpaa.KW Go.Proofs.Ythiijdbiikljpaa.Words Go.Proofs.Ythiijdbiikljpaa.Grp Go.ChangeShapes Go.WideShapes
set_option linter.unusedVariables false
set_option maxRecDepth 100000
section
variable {H : Type} {enc : TypeId × Value → H} {w : World} {base : Nat} {spare : Nat → Bool} {held : Bool}
theorem some_of {α : Type} {l : List α} {i : Nat} (h : i < l.length) : ∃ x, l[i]? = some x := ⟨_, List.getElem?_eq_getElem h⟩
theorem cells_Letter {fuel : Nat} {cs : List Value} {x : DataW H × List MemPlace} (h : DataW.trod enc Try.prog w base spare held fuel 53 cs = some x) : ∃ p : Let, RLet (fun _ => False) w cs p ∧ p.2.length ≤ 9223372036854775807 := by
  obtain ⟨xs, n, _, _, hl, hlen, hf⟩ := DataW.trod_struct Try.underlying53 h
  have hl : cs.length = 33 := by rw [hl]; kernel_rfl
  have hlen : xs.length = 2 := hlen
  obtain ⟨x0, e0⟩ := some_of (l := xs) (i := 0) (by omega)
  obtain ⟨x1, e1⟩ := some_of (l := xs) (i := 1) (by omega)
  have h0 := (hf 0 _ rfl).trans e0
  have h1 := (hf 1 _ rfl).trans e1
  obtain ⟨k, g0, b0⟩ := cells_key (n := 32) Try.underlying50 Try.underlying5 (by kernel_rfl) (by kernel_rfl) h0
  obtain ⟨ao, c, b, g1, hb, b1⟩ := cells_bytes Try.underlying51 Try.underlying5 (by kernel_rfl) h1
  have c0 : (cs.drop 0).take 32 = k.map byteV := g0
  have c1 : (cs.drop 32).take 1 = [.slice ao b.length c] := g1
  have hmx : maxLen ≤ 9223372036854775807 := by decide
  refine ⟨(k, b), ⟨.slice ao b.length c, ?_, ⟨ao, c, rfl, hb, fun _ _ _ h => h⟩, b0⟩, by have := hb.le; show b.length ≤ _; omega⟩
  have e : cs = (cs.drop 0).take 32 ++ (cs.drop 32).take 1 := by
    have d2 : (cs.drop 32).take 1 = cs.drop 32 := List.take_of_length_le (by rw [List.length_drop]; omega)
    rw [d2]
    have d0 := List.take_append_drop 32 (cs.drop 0)
    rw [List.drop_drop] at d0
    rw [d0, List.drop_zero]
  rw [e, c0, c1]
theorem cells_Letters {fuel : Nat} {cs : List Value} {x : DataW H × List MemPlace} (h : DataW.trod enc Try.prog w base spare held fuel 31 cs = some x) : ∃ ao c, ∃ es : List Let, cs = [.slice ao es.length c] ∧ Els (fun _ => False) w 33 RLet ao c es ∧ es.length ≤ 9223372036854775807 ∧ (∀ p ∈ es, p.2.length ≤ 9223372036854775807) ∧ ∀ p ∈ es, p.1.length = 32 := by
  obtain ⟨ao, c, es, e, hE, hc⟩ := cells_els (R := fun A w cs p => RLet A w cs p ∧ p.2.length ≤ 9223372036854775807) (sz := 33) Try.underlying31 (by kernel_rfl) (fun h => cells_Letter h) h
  exact ⟨ao, c, es, e, hE.mono (fun _ _ h => h.1), by have := hE.le; omega, hE.all (fun _ _ h => h.2), hE.all (fun _ _ h => by obtain ⟨⟨v, _, _, hk⟩, _⟩ := h; exact hk)⟩
theorem cells_Batch {fuel : Nat} {cs : List Value} {x : DataW H × List MemPlace} (h : DataW.trod enc Try.prog w base spare held fuel 33 cs = some x) : ∃ (x : BatD) (vi vl : Value), cs = batC x vi vl ∧ RNums (fun _ => False) w [vi] x.inner ∧ RSl 33 RLet (fun _ => False) w [vl] x.lets ∧ BatOk x ∧ x.inner.length ≤ 9223372036854775807 ∧ x.lets.length ≤ 9223372036854775807 ∧ ∀ p ∈ x.lets, p.2.length ≤ 9223372036854775807 := by
  obtain ⟨xs, n, _, _, hl, hlen, hf⟩ := DataW.trod_struct Try.underlying33 h
  have hl : cs.length = 4 := by rw [hl]; kernel_rfl
  have hlen : xs.length = 4 := hlen
  obtain ⟨x0, e0⟩ := some_of (l := xs) (i := 0) (by omega)
  obtain ⟨x1, e1⟩ := some_of (l := xs) (i := 1) (by omega)
  obtain ⟨x2, e2⟩ := some_of (l := xs) (i := 2) (by omega)
  obtain ⟨x3, e3⟩ := some_of (l := xs) (i := 3) (by omega)
  have h0 := (hf 0 _ rfl).trans e0
  have h1 := (hf 1 _ rfl).trans e1
  have h2 := (hf 2 _ rfl).trans e2
  have h3 := (hf 3 _ rfl).trans e3
  obtain ⟨a, g0, b0⟩ := cells_int Try.underlying3 h0
  obtain ⟨b, g1, b1⟩ := cells_int Try.underlying3 h1
  obtain ⟨ai, ci, ns, g2, hU, b2, b2'⟩ := cells_nums (M := M64) rfl rfl Try.underlying30 Try.underlying41 (by kernel_rfl) h2
  obtain ⟨al, cl, ls, g3, hE, b3, b3', b3''⟩ := cells_Letters h3
  have d0 : (cs.drop 0).take 1 = [.int .i64 a] := g0
  have d1 : (cs.drop 1).take 1 = [.int .i64 b] := g1
  have d2 : (cs.drop 2).take 1 = [.slice ai ns.length ci] := g2
  have d3 : (cs.drop 3).take 1 = [.slice al ls.length cl] := g3
  have hmx : maxLen ≤ 9223372036854775807 := by decide
  refine ⟨⟨a, b, ns, ls⟩, .slice ai ns.length ci, .slice al ls.length cl, ?_, ⟨ai, ci, rfl, hU, fun _ _ _ h => h, b2'⟩, ⟨al, cl, rfl, hE⟩, ⟨b0, b1, b2', b3''⟩, by have := hU.le; show ns.length ≤ _; omega, b3, b3'⟩
  have e : cs = (cs.drop 0).take 1 ++ ((cs.drop 1).take 1 ++ ((cs.drop 2).take 1 ++ (cs.drop 3).take 1)) := by
    have t3 : (cs.drop 3).take 1 = cs.drop 3 := List.take_of_length_le (by rw [List.length_drop]; omega)
    rw [t3]
    have t2 := List.take_append_drop 1 (cs.drop 2)
    rw [List.drop_drop] at t2
    rw [t2]
    have t1 := List.take_append_drop 1 (cs.drop 1)
    rw [List.drop_drop] at t1
    rw [t1]
    have t0 := List.take_append_drop 1 (cs.drop 0)
    rw [List.drop_drop] at t0
    rw [t0, List.drop_zero]
  rw [e, d0, d1, d2, d3]
  rfl
theorem open_Batch {r : Reach} {b0 : Nat} {v : Value} {d : DataW H} {ps : List MemPlace} (hval : Value.okWide Try.prog w r b0 33 v) (hd : DataW.Trod enc Try.prog w base spare held 33 v d ps) : ∃ (x : BatD) (vi vl : Value), v = .agg (batC x vi vl).toArray ∧ RNums (fun _ => False) w [vi] x.inner ∧ RSl 33 RLet (fun _ => False) w [vl] x.lets ∧ BatOk x ∧ x.inner.length ≤ 9223372036854775807 ∧ x.lets.length ≤ 9223372036854775807 ∧ ∀ p ∈ x.lets, p.2.length ≤ 9223372036854775807 := by
  obtain ⟨cs, rfl⟩ := agg_of Try.underlying33 rfl hval
  obtain ⟨fuel, hf⟩ := hd
  obtain ⟨x, vi, vl, e, hs⟩ := cells_Batch hf
  have e : cs = batC x vi vl := by simpa [Value.cells] using e
  exact ⟨x, vi, vl, by rw [e], hs⟩
end
end Go.Proofs.Ythiijdbiikljpaa.Cod
