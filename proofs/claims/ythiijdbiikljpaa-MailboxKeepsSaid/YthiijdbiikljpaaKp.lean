/- How arguments that lead into memory are told to the walks. -/
import Derived.Test.YthiijdbiikljpaaKo
import Derived.Test.YthiijdbiikljpaaKs
import Derived.ChangeSlices
import Derived.ChangeArms
import Derived.ChangeMaps5
import Derived.Deep.Slices
import Derived.OpenShut
namespace Go.Proofs.Ythiijdbiikljpaa.KW
open Go Go.RowKit Go.ChangeShapes Go.WideShapes
set_option linter.unusedVariables false
section
variable {H : Type} {enc : TypeId × Value → H} {P : Program} {w : World} {base : Nat} {spare : Nat → Bool} {held : Bool}

/-- Cells that read as bytes. -/
theorem cells_bytes {t e : TypeId} {fuel : Nat} {cs : List Value} {x : DataW H × List MemPlace} (ht : P.underlying t = some (.slice e)) (he : P.underlying e = some (.int .u8)) (hc : P.cellsOf e = 1)
    (h : DataW.trod enc P w base spare held fuel t cs = some x) : ∃ ao c xs, cs = [.slice ao xs.length c] ∧ Bs w ao c xs ∧ c ≤ maxLen := by
  rcases open_ints ht he hc h with ⟨rfl, _⟩ | ⟨a, len, cap, zs, rfl, hb, hl, hm, hz, _, hcell, hwf⟩
  · exact ⟨none, 0, [], rfl, Sl.none w 1, by decide⟩
  · have hlz : len ≤ zs.length := by rw [hz]; split <;> omega
    have hlen : ((zs.take len).map fun n => UInt8.ofNat n.toNat).length = len := by simp; omega
    refine ⟨some a, cap, (zs.take len).map fun n => UInt8.ofNat n.toNat, by rw [hlen], ⟨by rw [hlen]; exact hl, by simp, (fun e => by cases e), ?_⟩, hm⟩
    intro ad e
    obtain rfl := Option.some.inj e
    intro j u hu
    rw [List.map_map, List.getElem?_map, List.getElem?_take] at hu
    split at hu
    · rename_i hj
      obtain ⟨z, hzj, rfl⟩ := Option.map_eq_some_iff.1 hu
      have hj2 : j < zs.length := by omega
      rw [hcell j hj2]
      have hg : zs.getD j 0 = z := by simp [List.getD, hzj]
      rw [hg]
      have hw := hwf z (List.mem_of_getElem? hzj)
      have hb' : 0 ≤ z ∧ z ≤ 255 := by
        simp [Lit.wf, IntKind.min, IntKind.max, IntKind.signed, IntKind.bits] at hw
        exact hw
      simp only [Function.comp, byteV, UInt8.toNat_ofNat']
      rw [Nat.mod_eq_of_lt (by omega), Int.toNat_of_nonneg hb'.1]
    · cases hu
theorem open_B {r : Reach} {b0 : Nat} {t e : TypeId} {v : Value} {d : DataW H} {ps : List MemPlace} (ht : P.underlying t = some (.slice e)) (he : P.underlying e = some (.int .u8)) (hc : P.cellsOf e = 1) (hval : Value.okWide P w r b0 t v) (hd : DataW.Trod enc P w base spare held t v d ps) :
    ∃ ao c xs, v = .slice ao xs.length c ∧ Bs w ao c xs ∧ xs.length ≤ 9223372036854775807 := by
  obtain ⟨a, len, cap, rfl⟩ := okWide_slice ht hval
  obtain ⟨fuel, hf⟩ := hd
  obtain ⟨ao, c, xs, hcs, hB, hm⟩ := cells_bytes ht he hc hf
  simp [Value.cells] at hcs
  obtain ⟨rfl, rfl, rfl⟩ := hcs
  exact ⟨_, _, xs, rfl, hB, Nat.le_trans hB.le hm⟩
/-- Cells that read as numbers of an unsigned kind, and of int. -/
theorem cells_nums {t e M : Nat} {k : IntKind} {fuel : Nat} {cs : List Value} {x : DataW H × List MemPlace} (hk : modOf k = M) (hM : Nat.blt 0 M = true) (ht : P.underlying t = some (.slice e)) (he : P.underlying e = some (.int k)) (hc : P.cellsOf e = 1)
    (h : DataW.trod enc P w base spare held fuel t cs = some x) : ∃ ao c, ∃ xs : List Nat, cs = [.slice ao xs.length c] ∧ Sl w ao xs.length c 1 (xs.map fun n : Nat => .int k (n : Int)) ∧ c ≤ maxLen ∧ ∀ x ∈ xs, x < M := by
  obtain ⟨p1, p2⟩ := pow_bits hk hM
  have p3 : ((2 : Int) ^ k.bits) = (M : Int) := by rw [← p1]; simp
  rcases open_ints ht he hc h with ⟨rfl, _⟩ | ⟨a, len, cap, zs, rfl, hb, hl, hm, hz, _, hcell, hwf⟩
  · exact ⟨none, 0, [], rfl, Sl.none w 1, by decide, by simp⟩
  · have hlz : len ≤ zs.length := by rw [hz]; split <;> omega
    have hlen : ((zs.take len).map Int.toNat).length = len := by simp; omega
    have hr : ∀ z ∈ zs, 0 ≤ z ∧ z < (M : Int) := by
      intro z hzm
      have hw := hwf z hzm
      simp only [Lit.wf, IntKind.min, IntKind.max, p2, Bool.false_eq_true, if_false, p3, Bool.and_eq_true, decide_eq_true_eq] at hw
      omega
    refine ⟨some a, cap, (zs.take len).map Int.toNat, by rw [hlen], ⟨by rw [hlen]; exact hl, by simp, (fun e => by cases e), ?_⟩, hm, ?_⟩
    · intro ad e
      obtain rfl := Option.some.inj e
      intro j u hu
      rw [List.map_map, List.getElem?_map, List.getElem?_take] at hu
      split at hu
      · rename_i hj
        obtain ⟨z, hzj, rfl⟩ := Option.map_eq_some_iff.1 hu
        have hj2 : j < zs.length := by omega
        rw [hcell j hj2]
        have hg : zs.getD j 0 = z := by simp [List.getD, hzj]
        rw [hg]
        have := hr z (List.mem_of_getElem? hzj)
        simp only [Function.comp]
        rw [Int.toNat_of_nonneg this.1]
      · cases hu
    · intro x hx
      obtain ⟨z, hz1, rfl⟩ := List.mem_map.1 hx
      have := hr z (List.mem_of_mem_take hz1)
      omega
theorem open_N {r : Reach} {b0 : Nat} {t e M : Nat} {k : IntKind} {v : Value} {d : DataW H} {ps : List MemPlace} (hk : modOf k = M) (hM : Nat.blt 0 M = true) (ht : P.underlying t = some (.slice e)) (he : P.underlying e = some (.int k)) (hc : P.cellsOf e = 1) (hval : Value.okWide P w r b0 t v) (hd : DataW.Trod enc P w base spare held t v d ps) :
    ∃ ao c, ∃ xs : List Nat, v = .slice ao xs.length c ∧ Sl w ao xs.length c 1 (xs.map fun n : Nat => .int k (n : Int)) ∧ xs.length ≤ 9223372036854775807 ∧ ∀ x ∈ xs, x < M := by
  obtain ⟨a, len, cap, rfl⟩ := okWide_slice ht hval
  obtain ⟨fuel, hf⟩ := hd
  obtain ⟨ao, c, xs, hcs, hB, hm, hx⟩ := cells_nums hk hM ht he hc hf
  simp [Value.cells] at hcs
  obtain ⟨rfl, rfl, rfl⟩ := hcs
  exact ⟨_, _, xs, rfl, hB, Nat.le_trans hB.le hm, hx⟩
theorem cells_ints {t e : Nat} {fuel : Nat} {cs : List Value} {x : DataW H × List MemPlace} (ht : P.underlying t = some (.slice e)) (he : P.underlying e = some (.int .i64)) (hc : P.cellsOf e = 1)
    (h : DataW.trod enc P w base spare held fuel t cs = some x) : ∃ ao c, ∃ xs : List Int, cs = [.slice ao xs.length c] ∧ Sl w ao xs.length c 1 (xs.map (.int .i64)) ∧ c ≤ maxLen ∧ ∀ x ∈ xs, -9223372036854775808 ≤ x ∧ x ≤ 9223372036854775807 := by
  rcases open_ints ht he hc h with ⟨rfl, _⟩ | ⟨a, len, cap, zs, rfl, hb, hl, hm, hz, _, hcell, hwf⟩
  · exact ⟨none, 0, [], rfl, Sl.none w 1, by decide, by simp⟩
  · have hlz : len ≤ zs.length := by rw [hz]; split <;> omega
    have hlen : (zs.take len).length = len := by simp; omega
    refine ⟨some a, cap, zs.take len, by rw [hlen], ⟨by rw [hlen]; exact hl, by simp, (fun e => by cases e), ?_⟩, hm, ?_⟩
    · intro ad e
      obtain rfl := Option.some.inj e
      intro j u hu
      rw [List.getElem?_map, List.getElem?_take] at hu
      split at hu
      · rename_i hj
        obtain ⟨z, hzj, rfl⟩ := Option.map_eq_some_iff.1 hu
        rw [hcell j (by omega)]
        simp [List.getD, hzj]
      · cases hu
    · intro x hx
      have hw := hwf x (List.mem_of_mem_take hx)
      have h1 : IntKind.i64.min = -9223372036854775808 := by decide
      have h2 : IntKind.i64.max = 9223372036854775807 := by decide
      simp only [Lit.wf, h1, h2, Bool.and_eq_true, decide_eq_true_eq] at hw
      exact hw
theorem open_Z {r : Reach} {b0 : Nat} {t e : Nat} {v : Value} {d : DataW H} {ps : List MemPlace} (ht : P.underlying t = some (.slice e)) (he : P.underlying e = some (.int .i64)) (hc : P.cellsOf e = 1) (hval : Value.okWide P w r b0 t v) (hd : DataW.Trod enc P w base spare held t v d ps) :
    ∃ ao c, ∃ xs : List Int, v = .slice ao xs.length c ∧ Sl w ao xs.length c 1 (xs.map (.int .i64)) ∧ xs.length ≤ 9223372036854775807 ∧ ∀ x ∈ xs, -9223372036854775808 ≤ x ∧ x ≤ 9223372036854775807 := by
  obtain ⟨a, len, cap, rfl⟩ := okWide_slice ht hval
  obtain ⟨fuel, hf⟩ := hd
  obtain ⟨ao, c, xs, hcs, hB, hm, hx⟩ := cells_ints ht he hc hf
  simp [Value.cells] at hcs
  obtain ⟨rfl, rfl, rfl⟩ := hcs
  exact ⟨_, _, xs, rfl, hB, Nat.le_trans hB.le hm, hx⟩
/-- A slice of slices of bytes. -/
theorem open_BB {r : Reach} {b0 : Nat} {t e e2 : TypeId} {v : Value} {d : DataW H} {ps : List MemPlace} (ht : P.underlying t = some (.slice e)) (hte : P.underlying e = some (.slice e2)) (he : P.underlying e2 = some (.int .u8)) (hc : P.cellsOf e = 1) (hc2 : P.cellsOf e2 = 1) (hval : Value.okWide P w r b0 t v) (hd : DataW.Trod enc P w base spare held t v d ps) :
    ∃ ao c ls, v = .slice ao (List.length ls) c ∧ Bss w ao c ls ∧ ls.length ≤ 9223372036854775807 := by
  obtain ⟨a0, len0, cap0, rfl⟩ := okWide_slice ht hval
  obtain ⟨fuel, hf⟩ := hd
  rcases DataW.trod_slice ht hf with ⟨h0, _⟩ | ⟨a, len, cap, elems, rest, n, _, hcs, _, hb, hl, hm, hlen, hel, _, _⟩
  · simp [Value.cells] at h0
    obtain ⟨rfl, rfl, rfl⟩ := h0
    exact ⟨none, 0, [], rfl, ⟨[], Sl.none w 1, fun i hi => by simp at hi⟩, by decide⟩
  · simp [Value.cells] at hcs
    obtain ⟨rfl, rfl, rfl⟩ := hcs
    have each : ∀ i, i < len0 → ∃ xs : List UInt8, ∃ ao' c', w.cell? (a.add i) = some (.slice ao' xs.length c') ∧ Bs w ao' c' xs := by
      intro i hi
      have h1 := hel i hi
      rw [List.getElem?_eq_getElem (by omega), hc, Nat.mul_one, Option.bind_eq_some_iff] at h1
      obtain ⟨cs', h2, h3⟩ := h1
      obtain ⟨ao', c', xs, rfl, hB, _⟩ := cells_bytes hte he hc2 h3
      exact ⟨xs, ao', c', cell_of_cells?_one h2, hB⟩
    obtain ⟨f, hfx⟩ := Go.Deep.choose_lt each
    have hmx : maxLen ≤ 9223372036854775807 := by decide
    refine ⟨some a, cap0, (List.range len0).map f, by simp, ⟨(List.range len0).map fun i => (w.cell? (a.add i)).getD (.bool true), ⟨by simpa using hl, by simp, (fun e => by cases e), ?_⟩, ?_⟩, by simp; omega⟩
    · intro ad e
      obtain rfl := Option.some.inj e
      intro j u hu
      rw [List.getElem?_map] at hu
      obtain ⟨k, hk, rfl⟩ := Option.map_eq_some_iff.1 hu
      have hk2 := List.getElem?_eq_some_iff.1 hk
      obtain ⟨hj, hk3⟩ := hk2
      simp at hj hk3
      subst hk3
      obtain ⟨_, _, h5, _⟩ := hfx j hj
      rw [h5]; rfl
    · intro i hi
      simp at hi
      obtain ⟨ao', c', h5, h6⟩ := hfx i hi
      refine ⟨.slice ao' (f i).length c', by simp [hi, h5], ao', c', ?_, ?_⟩
      · simp
      · simpa using h6
/-- An array of bytes, as a value. -/
theorem open_K {r : Reach} {b0 : Nat} {n : Nat} {t e : TypeId} {v : Value} {d : DataW H} {ps : List MemPlace} (ht : P.underlying t = some (.array n e)) (he : P.underlying e = some (.int .u8)) (hc : P.cellsOf e = 1) (hct : P.cellsOf t = n) (hval : Value.okWide P w r b0 t v) (hd : DataW.Trod enc P w base spare held t v d ps) :
    ∃ key : List UInt8, v = .agg (key.map byteV).toArray ∧ key.length = n := by
  have hv : ∃ cs, v = .agg cs := by
    unfold Value.okWide at hval
    rw [ht] at hval
    cases v <;> simp_all
  obtain ⟨cs, rfl⟩ := hv
  obtain ⟨fuel, hf⟩ := hd
  obtain ⟨xs, m, _, _, hlen, hxl, hel⟩ := DataW.trod_array ht hf
  have hcl : cs.toList.length = n := by
    have : (Value.cells (.agg cs)).toList.length = n := by rw [hlen, hct]
    simpa [Value.cells] using this
  have each : ∀ i, i < n → ∃ b : UInt8, cs.toList[i]? = some (byteV b) := by
    intro i hi
    have h1 := hel i hi
    rw [hc, Nat.mul_one, List.getElem?_eq_getElem (by omega)] at h1
    obtain ⟨z, hz, _, hw⟩ := DataW.trod_int he h1
    simp only [Value.cells] at hz
    have hb : 0 ≤ z ∧ z ≤ 255 := by
      simp [Lit.wf, IntKind.min, IntKind.max, IntKind.signed, IntKind.bits] at hw
      exact hw
    have h2 : cs.toList[i]? = some (.int .u8 z) := by
      have h3 : ((cs.toList.drop i).take 1)[0]? = some (.int .u8 z) := by rw [hz]; rfl
      rw [List.getElem?_take, if_pos (by decide), List.getElem?_drop, Nat.add_zero] at h3
      exact h3
    refine ⟨UInt8.ofNat z.toNat, ?_⟩
    rw [h2, byteV, UInt8.toNat_ofNat', Nat.mod_eq_of_lt (by omega), Int.toNat_of_nonneg hb.1]
  obtain ⟨f, hf'⟩ := Go.Deep.choose_lt each
  refine ⟨(List.range n).map f, ?_, by simp⟩
  congr 1
  apply Array.ext'
  apply List.ext_getElem?
  intro i
  by_cases hi : i < n
  · rw [hf' i hi]; simp [hi]
  · rw [List.getElem?_eq_none (by omega), List.getElem?_eq_none (by simp; omega)]
theorem open_St {r : Reach} {b0 : Nat} {t : TypeId} {v : Value} {d : DataW H} {ps : List MemPlace} (ht : P.underlying t = some .string) (hval : Value.okWide P w r b0 t v) (hd : DataW.Trod enc P w base spare held t v d ps) :
    ∃ xs : List UInt8, v = strV xs ∧ xs.length ≤ 9223372036854775807 := by
  obtain ⟨s, rfl, _, _, hs⟩ := Go.ChangeMaps.open_string ht hval hd
  exact ⟨s.data.toList, rfl, hs⟩
end
end Go.Proofs.Ythiijdbiikljpaa.KW
