/- How arguments that lead into memory are told to the walks. -/
import Derived.Test.YtenjokoialgjbaaKo
import Derived.Test.YtenjokoialgjbaaKs
import Derived.ChangeSlices
import Derived.ChangeArms
import Derived.ChangeMaps5
namespace Go.Proofs.Ytenjokoialgjbaa.KW
open Go Go.RowKit Go.ChangeShapes Go.WideShapes
set_option linter.unusedVariables false
section
variable {H : Type} {enc : TypeId × Value → H} {P : Program} {w : World} {base : Nat} {spare : Nat → Bool} {held : Bool}

/-- Cells that read as bytes. -/
theorem cells_bytes {t e : TypeId} {fuel : Nat} {cs : List Value} {x : DataW H × List MemPlace} (ht : P.underlying t = some (.slice e)) (he : P.underlying e = some (.int .u8)) (hc : P.cellsOf e = 1)
    (h : DataW.trod enc P w base spare held fuel t cs = some x) : ∃ ao c xs, cs = [.slice ao xs.length c] ∧ Bs w ao c xs ∧ c ≤ maxLen := by
  rcases open_ints ht he hc h with ⟨rfl, _⟩ | ⟨a, len, cap, zs, rfl, hb, hl, hm, hz, _, hcell, hwf⟩
  · exact ⟨none, 0, [], rfl, Sl.none w 1, by decide⟩
  · have hlz : len ≤ zs.length := by rw [hz]; split <;> omega
    have hlen : ((zs.take len).map fun n => UInt8.ofNat n.toNat).length = len := by simp; omega
    refine ⟨some a, cap, (zs.take len).map fun n => UInt8.ofNat n.toNat, by rw [hlen], ⟨by rw [hlen]; exact hl, by simp, (fun e => by cases e), ?_⟩, hm⟩
    intro ad e
    obtain rfl := Option.some.inj e
    intro j u hu
    rw [List.map_map, List.getElem?_map, List.getElem?_take] at hu
    split at hu
    · rename_i hj
      obtain ⟨z, hzj, rfl⟩ := Option.map_eq_some_iff.1 hu
      have hj2 : j < zs.length := by omega
      rw [hcell j hj2]
      have hg : zs.getD j 0 = z := by simp [List.getD, hzj]
      rw [hg]
      have hw := hwf z (List.mem_of_getElem? hzj)
      have hb' : 0 ≤ z ∧ z ≤ 255 := by
        simp [Lit.wf, IntKind.min, IntKind.max, IntKind.signed, IntKind.bits] at hw
        exact hw
      simp only [Function.comp, byteV, UInt8.toNat_ofNat']
      rw [Nat.mod_eq_of_lt (by omega), Int.toNat_of_nonneg hb'.1]
    · cases hu
theorem open_B {r : Reach} {b0 : Nat} {t e : TypeId} {v : Value} {d : DataW H} {ps : List MemPlace} (ht : P.underlying t = some (.slice e)) (he : P.underlying e = some (.int .u8)) (hc : P.cellsOf e = 1) (hval : Value.okWide P w r b0 t v) (hd : DataW.Trod enc P w base spare held t v d ps) :
    ∃ ao c xs, v = .slice ao xs.length c ∧ Bs w ao c xs ∧ xs.length ≤ 9223372036854775807 := by
  obtain ⟨a, len, cap, rfl⟩ := okWide_slice ht hval
  obtain ⟨fuel, hf⟩ := hd
  obtain ⟨ao, c, xs, hcs, hB, hm⟩ := cells_bytes ht he hc hf
  simp [Value.cells] at hcs
  obtain ⟨rfl, rfl, rfl⟩ := hcs
  exact ⟨_, _, xs, rfl, hB, Nat.le_trans hB.le hm⟩
theorem open_St {r : Reach} {b0 : Nat} {t : TypeId} {v : Value} {d : DataW H} {ps : List MemPlace} (ht : P.underlying t = some .string) (hval : Value.okWide P w r b0 t v) (hd : DataW.Trod enc P w base spare held t v d ps) :
    ∃ xs : List UInt8, v = strV xs ∧ xs.length ≤ 9223372036854775807 := by
  obtain ⟨s, rfl, _, _, hs⟩ := Go.ChangeMaps.open_string ht hval hd
  exact ⟨s.data.toList, rfl, hs⟩
end
end Go.Proofs.Ytenjokoialgjbaa.KW
