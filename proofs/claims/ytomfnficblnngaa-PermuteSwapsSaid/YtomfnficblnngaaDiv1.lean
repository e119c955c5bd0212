/- math/bits: the length of a number, and 2^64 by any number. -/
import Derived.Test.YtomfnficblnngaaWords
import Derived.Test.YtomfnficblnngaaKe
import Derived.Test.YtomfnficblnngaaKr
import Derived.Lib.Tables
namespace Go.Proofs.Ytomfnficblnngaa.Div1
open Go Go.RowKit Go.Proofs.Ytomfnficblnngaa.KW Go.Proofs.Ytomfnficblnngaa.Words
set_option linter.unusedVariables false
set_option linter.unusedSimpArgs false
set_option maxRecDepth 100000

def lenP (x L : Nat) : Prop := 0 < x → 2 ^ L ≤ 2 * x ∧ x < 2 ^ L
theorem lenP_shift {x L : Nat} (k : Nat) (h : 2 ^ k ≤ x) (hp : lenP (x / 2 ^ k) L) : lenP x (k + L) := by
  intro _
  have hk : 0 < 2 ^ k := Nat.two_pow_pos k
  obtain ⟨h1, h2⟩ := hp (Nat.div_pos h hk)
  rw [Nat.pow_add]
  have h3 := Nat.div_mul_le_self x (2 ^ k)
  have h4 := Nat.lt_mul_of_div_lt h2 hk
  refine ⟨?_, by rw [Nat.mul_comm]; exact h4⟩
  calc 2 ^ k * 2 ^ L ≤ 2 ^ k * (2 * (x / 2 ^ k)) := Nat.mul_le_mul_left _ h1
    _ = 2 * (x / 2 ^ k * 2 ^ k) := by rw [← Nat.mul_assoc, Nat.mul_comm (2 ^ k) 2, Nat.mul_assoc, Nat.mul_comm (2 ^ k)]
    _ ≤ 2 * x := Nat.mul_le_mul_left _ h3
theorem lenP32 {x L : Nat} (h : 4294967296 ≤ x) (hp : lenP (x / 4294967296) L) : lenP x (32 + L) := lenP_shift 32 h hp
theorem lenP16 {x L : Nat} (h : 65536 ≤ x) (hp : lenP (x / 65536) L) : lenP x (16 + L) := lenP_shift 16 h hp
theorem lenP8 {x L : Nat} (h : 256 ≤ x) (hp : lenP (x / 256) L) : lenP x (8 + L) := lenP_shift 8 h hp
instance (x L : Nat) : Decidable (lenP x L) := by unfold lenP; infer_instance
theorem tab_ok : ∀ n : Fin 256, lenP n.val ((Lib.len8tab.get! n.val).toNat) ∧ (Lib.len8tab.get! n.val).toNat ≤ 8 := by decide +kernel
section
variable {P : Program} {N : Nat} {Q : Exit → Act → World → Prop} {l : Env} {w : World} {ops : Array Oper} {rest : List Oper} {d : Tmp} {ty : TypeId} {pos : String} {aft : Array Edge}
variable {x y : Operand} {T T' : TypeId}
theorem W.len8 {t : TypeId} {k : IntKind} (n : Nat) (hx : ev l x = some (.string Lib.len8tab)) (hT : P.underlying t = some .string) (hy : ev l y = some (.int k (n : Int))) (hn : n < 256) (hN : Nat.blt d N = true)
    (next : ∀ T, lenP n T → T ≤ 8 → W P N ops Q rest ((d, .int .u8 (T : Int)) :: l) w) : W P N ops Q (⟨some d, .index t x y, ty, pos, aft, none⟩ :: rest) l w := by
  have hs : n < Lib.len8tab.size := by rw [Lib.len8tab_size]; exact hn
  refine W.indexStr n hx hT hy rfl hs hN ?_
  have h := tab_ok ⟨n, hn⟩
  have e : Lib.len8tab.get! n = Lib.len8tab[n]'hs := by
    show Lib.len8tab.data[n]! = _
    rw [getElem!_pos Lib.len8tab.data n hs]
    rfl
  simp only [e] at h
  exact next _ h.1 h.2
end
theorem shr16_64 (m : Nat) : shrM 64 m 16 = m / 65536 := by simp [shrM]
theorem shr8_64 (m : Nat) : shrM 64 m 8 = m / 256 := by simp [shrM]
theorem Len64_ok (x : Nat) (w : World) (hx : x < 18446744073709551616) : Ct Try.prog 71 #[.int .u64 (x : Int)] w (fun v w' => (∃ L : Nat, v = .int .i64 (L : Int) ∧ lenP x L ∧ L ≤ 64) ∧ w = w') := by
  refine Ct.enter [(0, .int .u64 (x : Int))] Try.func71 rfl rfl rfl rfl ?_
  refine C.seq ?_
  refine C.region ?_
  refine W.assign rfl rfl ?_
  refine W.nil ?_
  refine At.thenCode ?_
  refine C.seq ?_
  refine C.seq ?_
  refine C.region ?_
  refine W.move rfl rfl ?_
  refine W.geqU (n := 4294967296) rfl rfl rfl ?_
  refine W.nil ?_
  refine At.thenCode ?_
  first | refine C.condD rfl (fun c4 => ?_) (fun c4 => ?_) | refine C.cond rfl (fun c4 => ?_) (fun c4 => ?_)
  · refine C.seq ?_
    refine C.region ?_
    refine W.move rfl rfl ?_
    refine W.shrU (B := 64) (s := 32) rfl rfl rfl rfl ?_
    rw [shr32_64]
    refine W.assign rfl rfl ?_
    refine W.nil ?_
    refine At.thenCode ?_
    refine C.region ?_
    refine W.assign rfl rfl ?_
    refine W.nil ?_
    refine At.thenCode ?_
    refine C.seq ?_
    refine C.seq ?_
    refine C.region ?_
    refine W.move rfl rfl ?_
    refine W.geqU (n := 65536) rfl rfl rfl ?_
    refine W.nil ?_
    refine At.thenCode ?_
    first | refine C.condD rfl (fun c8 => ?_) (fun c8 => ?_) | refine C.cond rfl (fun c8 => ?_) (fun c8 => ?_)
    · refine C.seq ?_
      refine C.region ?_
      refine W.move rfl rfl ?_
      refine W.shrU (B := 64) (s := 16) rfl rfl rfl rfl ?_
      rw [shr16_64]
      refine W.assign rfl rfl ?_
      refine W.nil ?_
      refine At.thenCode ?_
      refine C.region ?_
      refine W.move rfl rfl ?_
      first | refine W.addI rfl rfl (by omega) rfl ?_ | refine W.addW rfl rfl rfl ?_
      refine W.assign rfl rfl ?_
      refine W.nil ?_
      refine At.thenCode ?_
      refine C.seq ?_
      refine C.seq ?_
      refine C.region ?_
      refine W.move rfl rfl ?_
      refine W.geqU (n := 256) rfl rfl rfl ?_
      refine W.nil ?_
      refine At.thenCode ?_
      first | refine C.condD rfl (fun c14 => ?_) (fun c14 => ?_) | refine C.cond rfl (fun c14 => ?_) (fun c14 => ?_)
      · refine C.seq ?_
        refine C.region ?_
        refine W.move rfl rfl ?_
        refine W.shrU (B := 64) (s := 8) rfl rfl rfl rfl ?_
        rw [shr8_64]
        refine W.assign rfl rfl ?_
        refine W.nil ?_
        refine At.thenCode ?_
        refine C.region ?_
        refine W.move rfl rfl ?_
        first | refine W.addI rfl rfl (by omega) rfl ?_ | refine W.addW rfl rfl rfl ?_
        refine W.assign rfl rfl ?_
        refine W.nil ?_
        refine At.thenCode ?_
        refine C.seq ?_
        refine C.region ?_
        refine W.move rfl rfl ?_
        refine W.move rfl rfl ?_
        refine W.convU (M := 256) rfl Try.underlying30 Try.underlying5 rfl rfl (by omega) rfl ?_
        refine W.len8 _ rfl Try.underlying9 rfl (by omega) rfl ?_
        intro T hT hT8
        first | refine W.convI rfl Try.underlying5 Try.underlying3 (by omega) rfl ?_ | refine W.conv rfl Try.underlying5 Try.underlying3 rfl ?_
        first | refine W.addI rfl rfl (by omega) rfl ?_ | refine W.addW rfl rfl rfl ?_
        refine W.assign rfl rfl ?_
        refine W.nil ?_
        refine At.thenCode ?_
        refine C.ret ?_
        refine At.ret1 Try.results71 rfl ?_
        first
        | exact ⟨⟨32 + (16 + (8 + T)), iV (by omega), lenP32 (by omega) (lenP16 (by omega) (lenP8 (by omega) hT)), by omega⟩, rfl⟩
        | exact ⟨⟨32 + (16 + T), iV (by omega), lenP32 (by omega) (lenP16 (by omega) hT), by omega⟩, rfl⟩
        | exact ⟨⟨32 + (8 + T), iV (by omega), lenP32 (by omega) (lenP8 (by omega) hT), by omega⟩, rfl⟩
        | exact ⟨⟨32 + T, iV (by omega), lenP32 (by omega) hT, by omega⟩, rfl⟩
        | exact ⟨⟨16 + (8 + T), iV (by omega), lenP16 (by omega) (lenP8 (by omega) hT), by omega⟩, rfl⟩
        | exact ⟨⟨16 + T, iV (by omega), lenP16 (by omega) hT, by omega⟩, rfl⟩
        | exact ⟨⟨8 + T, iV (by omega), lenP8 (by omega) hT, by omega⟩, rfl⟩
        | exact ⟨⟨T, iV (by omega), hT, by omega⟩, rfl⟩
      · refine C.skip ?_
        refine At.thenCode ?_
        refine C.seq ?_
        refine C.region ?_
        refine W.move rfl rfl ?_
        refine W.move rfl rfl ?_
        refine W.convU (M := 256) rfl Try.underlying30 Try.underlying5 rfl rfl (by omega) rfl ?_
        refine W.len8 _ rfl Try.underlying9 rfl (by omega) rfl ?_
        intro T hT hT8
        first | refine W.convI rfl Try.underlying5 Try.underlying3 (by omega) rfl ?_ | refine W.conv rfl Try.underlying5 Try.underlying3 rfl ?_
        first | refine W.addI rfl rfl (by omega) rfl ?_ | refine W.addW rfl rfl rfl ?_
        refine W.assign rfl rfl ?_
        refine W.nil ?_
        refine At.thenCode ?_
        refine C.ret ?_
        refine At.ret1 Try.results71 rfl ?_
        first
        | exact ⟨⟨32 + (16 + (8 + T)), iV (by omega), lenP32 (by omega) (lenP16 (by omega) (lenP8 (by omega) hT)), by omega⟩, rfl⟩
        | exact ⟨⟨32 + (16 + T), iV (by omega), lenP32 (by omega) (lenP16 (by omega) hT), by omega⟩, rfl⟩
        | exact ⟨⟨32 + (8 + T), iV (by omega), lenP32 (by omega) (lenP8 (by omega) hT), by omega⟩, rfl⟩
        | exact ⟨⟨32 + T, iV (by omega), lenP32 (by omega) hT, by omega⟩, rfl⟩
        | exact ⟨⟨16 + (8 + T), iV (by omega), lenP16 (by omega) (lenP8 (by omega) hT), by omega⟩, rfl⟩
        | exact ⟨⟨16 + T, iV (by omega), lenP16 (by omega) hT, by omega⟩, rfl⟩
        | exact ⟨⟨8 + T, iV (by omega), lenP8 (by omega) hT, by omega⟩, rfl⟩
        | exact ⟨⟨T, iV (by omega), hT, by omega⟩, rfl⟩
    · refine C.skip ?_
      refine At.thenCode ?_
      refine C.seq ?_
      refine C.seq ?_
      refine C.region ?_
      refine W.move rfl rfl ?_
      refine W.geqU (n := 256) rfl rfl rfl ?_
      refine W.nil ?_
      refine At.thenCode ?_
      first | refine C.condD rfl (fun c14 => ?_) (fun c14 => ?_) | refine C.cond rfl (fun c14 => ?_) (fun c14 => ?_)
      · refine C.seq ?_
        refine C.region ?_
        refine W.move rfl rfl ?_
        refine W.shrU (B := 64) (s := 8) rfl rfl rfl rfl ?_
        rw [shr8_64]
        refine W.assign rfl rfl ?_
        refine W.nil ?_
        refine At.thenCode ?_
        refine C.region ?_
        refine W.move rfl rfl ?_
        first | refine W.addI rfl rfl (by omega) rfl ?_ | refine W.addW rfl rfl rfl ?_
        refine W.assign rfl rfl ?_
        refine W.nil ?_
        refine At.thenCode ?_
        refine C.seq ?_
        refine C.region ?_
        refine W.move rfl rfl ?_
        refine W.move rfl rfl ?_
        refine W.convU (M := 256) rfl Try.underlying30 Try.underlying5 rfl rfl (by omega) rfl ?_
        refine W.len8 _ rfl Try.underlying9 rfl (by omega) rfl ?_
        intro T hT hT8
        first | refine W.convI rfl Try.underlying5 Try.underlying3 (by omega) rfl ?_ | refine W.conv rfl Try.underlying5 Try.underlying3 rfl ?_
        first | refine W.addI rfl rfl (by omega) rfl ?_ | refine W.addW rfl rfl rfl ?_
        refine W.assign rfl rfl ?_
        refine W.nil ?_
        refine At.thenCode ?_
        refine C.ret ?_
        refine At.ret1 Try.results71 rfl ?_
        first
        | exact ⟨⟨32 + (16 + (8 + T)), iV (by omega), lenP32 (by omega) (lenP16 (by omega) (lenP8 (by omega) hT)), by omega⟩, rfl⟩
        | exact ⟨⟨32 + (16 + T), iV (by omega), lenP32 (by omega) (lenP16 (by omega) hT), by omega⟩, rfl⟩
        | exact ⟨⟨32 + (8 + T), iV (by omega), lenP32 (by omega) (lenP8 (by omega) hT), by omega⟩, rfl⟩
        | exact ⟨⟨32 + T, iV (by omega), lenP32 (by omega) hT, by omega⟩, rfl⟩
        | exact ⟨⟨16 + (8 + T), iV (by omega), lenP16 (by omega) (lenP8 (by omega) hT), by omega⟩, rfl⟩
        | exact ⟨⟨16 + T, iV (by omega), lenP16 (by omega) hT, by omega⟩, rfl⟩
        | exact ⟨⟨8 + T, iV (by omega), lenP8 (by omega) hT, by omega⟩, rfl⟩
        | exact ⟨⟨T, iV (by omega), hT, by omega⟩, rfl⟩
      · refine C.skip ?_
        refine At.thenCode ?_
        refine C.seq ?_
        refine C.region ?_
        refine W.move rfl rfl ?_
        refine W.move rfl rfl ?_
        refine W.convU (M := 256) rfl Try.underlying30 Try.underlying5 rfl rfl (by omega) rfl ?_
        refine W.len8 _ rfl Try.underlying9 rfl (by omega) rfl ?_
        intro T hT hT8
        first | refine W.convI rfl Try.underlying5 Try.underlying3 (by omega) rfl ?_ | refine W.conv rfl Try.underlying5 Try.underlying3 rfl ?_
        first | refine W.addI rfl rfl (by omega) rfl ?_ | refine W.addW rfl rfl rfl ?_
        refine W.assign rfl rfl ?_
        refine W.nil ?_
        refine At.thenCode ?_
        refine C.ret ?_
        refine At.ret1 Try.results71 rfl ?_
        first
        | exact ⟨⟨32 + (16 + (8 + T)), iV (by omega), lenP32 (by omega) (lenP16 (by omega) (lenP8 (by omega) hT)), by omega⟩, rfl⟩
        | exact ⟨⟨32 + (16 + T), iV (by omega), lenP32 (by omega) (lenP16 (by omega) hT), by omega⟩, rfl⟩
        | exact ⟨⟨32 + (8 + T), iV (by omega), lenP32 (by omega) (lenP8 (by omega) hT), by omega⟩, rfl⟩
        | exact ⟨⟨32 + T, iV (by omega), lenP32 (by omega) hT, by omega⟩, rfl⟩
        | exact ⟨⟨16 + (8 + T), iV (by omega), lenP16 (by omega) (lenP8 (by omega) hT), by omega⟩, rfl⟩
        | exact ⟨⟨16 + T, iV (by omega), lenP16 (by omega) hT, by omega⟩, rfl⟩
        | exact ⟨⟨8 + T, iV (by omega), lenP8 (by omega) hT, by omega⟩, rfl⟩
        | exact ⟨⟨T, iV (by omega), hT, by omega⟩, rfl⟩
  · refine C.skip ?_
    refine At.thenCode ?_
    refine C.seq ?_
    refine C.seq ?_
    refine C.region ?_
    refine W.move rfl rfl ?_
    refine W.geqU (n := 65536) rfl rfl rfl ?_
    refine W.nil ?_
    refine At.thenCode ?_
    first | refine C.condD rfl (fun c8 => ?_) (fun c8 => ?_) | refine C.cond rfl (fun c8 => ?_) (fun c8 => ?_)
    · refine C.seq ?_
      refine C.region ?_
      refine W.move rfl rfl ?_
      refine W.shrU (B := 64) (s := 16) rfl rfl rfl rfl ?_
      rw [shr16_64]
      refine W.assign rfl rfl ?_
      refine W.nil ?_
      refine At.thenCode ?_
      refine C.region ?_
      refine W.move rfl rfl ?_
      first | refine W.addI rfl rfl (by omega) rfl ?_ | refine W.addW rfl rfl rfl ?_
      refine W.assign rfl rfl ?_
      refine W.nil ?_
      refine At.thenCode ?_
      refine C.seq ?_
      refine C.seq ?_
      refine C.region ?_
      refine W.move rfl rfl ?_
      refine W.geqU (n := 256) rfl rfl rfl ?_
      refine W.nil ?_
      refine At.thenCode ?_
      first | refine C.condD rfl (fun c14 => ?_) (fun c14 => ?_) | refine C.cond rfl (fun c14 => ?_) (fun c14 => ?_)
      · refine C.seq ?_
        refine C.region ?_
        refine W.move rfl rfl ?_
        refine W.shrU (B := 64) (s := 8) rfl rfl rfl rfl ?_
        rw [shr8_64]
        refine W.assign rfl rfl ?_
        refine W.nil ?_
        refine At.thenCode ?_
        refine C.region ?_
        refine W.move rfl rfl ?_
        first | refine W.addI rfl rfl (by omega) rfl ?_ | refine W.addW rfl rfl rfl ?_
        refine W.assign rfl rfl ?_
        refine W.nil ?_
        refine At.thenCode ?_
        refine C.seq ?_
        refine C.region ?_
        refine W.move rfl rfl ?_
        refine W.move rfl rfl ?_
        refine W.convU (M := 256) rfl Try.underlying30 Try.underlying5 rfl rfl (by omega) rfl ?_
        refine W.len8 _ rfl Try.underlying9 rfl (by omega) rfl ?_
        intro T hT hT8
        first | refine W.convI rfl Try.underlying5 Try.underlying3 (by omega) rfl ?_ | refine W.conv rfl Try.underlying5 Try.underlying3 rfl ?_
        first | refine W.addI rfl rfl (by omega) rfl ?_ | refine W.addW rfl rfl rfl ?_
        refine W.assign rfl rfl ?_
        refine W.nil ?_
        refine At.thenCode ?_
        refine C.ret ?_
        refine At.ret1 Try.results71 rfl ?_
        first
        | exact ⟨⟨32 + (16 + (8 + T)), iV (by omega), lenP32 (by omega) (lenP16 (by omega) (lenP8 (by omega) hT)), by omega⟩, rfl⟩
        | exact ⟨⟨32 + (16 + T), iV (by omega), lenP32 (by omega) (lenP16 (by omega) hT), by omega⟩, rfl⟩
        | exact ⟨⟨32 + (8 + T), iV (by omega), lenP32 (by omega) (lenP8 (by omega) hT), by omega⟩, rfl⟩
        | exact ⟨⟨32 + T, iV (by omega), lenP32 (by omega) hT, by omega⟩, rfl⟩
        | exact ⟨⟨16 + (8 + T), iV (by omega), lenP16 (by omega) (lenP8 (by omega) hT), by omega⟩, rfl⟩
        | exact ⟨⟨16 + T, iV (by omega), lenP16 (by omega) hT, by omega⟩, rfl⟩
        | exact ⟨⟨8 + T, iV (by omega), lenP8 (by omega) hT, by omega⟩, rfl⟩
        | exact ⟨⟨T, iV (by omega), hT, by omega⟩, rfl⟩
      · refine C.skip ?_
        refine At.thenCode ?_
        refine C.seq ?_
        refine C.region ?_
        refine W.move rfl rfl ?_
        refine W.move rfl rfl ?_
        refine W.convU (M := 256) rfl Try.underlying30 Try.underlying5 rfl rfl (by omega) rfl ?_
        refine W.len8 _ rfl Try.underlying9 rfl (by omega) rfl ?_
        intro T hT hT8
        first | refine W.convI rfl Try.underlying5 Try.underlying3 (by omega) rfl ?_ | refine W.conv rfl Try.underlying5 Try.underlying3 rfl ?_
        first | refine W.addI rfl rfl (by omega) rfl ?_ | refine W.addW rfl rfl rfl ?_
        refine W.assign rfl rfl ?_
        refine W.nil ?_
        refine At.thenCode ?_
        refine C.ret ?_
        refine At.ret1 Try.results71 rfl ?_
        first
        | exact ⟨⟨32 + (16 + (8 + T)), iV (by omega), lenP32 (by omega) (lenP16 (by omega) (lenP8 (by omega) hT)), by omega⟩, rfl⟩
        | exact ⟨⟨32 + (16 + T), iV (by omega), lenP32 (by omega) (lenP16 (by omega) hT), by omega⟩, rfl⟩
        | exact ⟨⟨32 + (8 + T), iV (by omega), lenP32 (by omega) (lenP8 (by omega) hT), by omega⟩, rfl⟩
        | exact ⟨⟨32 + T, iV (by omega), lenP32 (by omega) hT, by omega⟩, rfl⟩
        | exact ⟨⟨16 + (8 + T), iV (by omega), lenP16 (by omega) (lenP8 (by omega) hT), by omega⟩, rfl⟩
        | exact ⟨⟨16 + T, iV (by omega), lenP16 (by omega) hT, by omega⟩, rfl⟩
        | exact ⟨⟨8 + T, iV (by omega), lenP8 (by omega) hT, by omega⟩, rfl⟩
        | exact ⟨⟨T, iV (by omega), hT, by omega⟩, rfl⟩
    · refine C.skip ?_
      refine At.thenCode ?_
      refine C.seq ?_
      refine C.seq ?_
      refine C.region ?_
      refine W.move rfl rfl ?_
      refine W.geqU (n := 256) rfl rfl rfl ?_
      refine W.nil ?_
      refine At.thenCode ?_
      first | refine C.condD rfl (fun c14 => ?_) (fun c14 => ?_) | refine C.cond rfl (fun c14 => ?_) (fun c14 => ?_)
      · refine C.seq ?_
        refine C.region ?_
        refine W.move rfl rfl ?_
        refine W.shrU (B := 64) (s := 8) rfl rfl rfl rfl ?_
        rw [shr8_64]
        refine W.assign rfl rfl ?_
        refine W.nil ?_
        refine At.thenCode ?_
        refine C.region ?_
        refine W.move rfl rfl ?_
        first | refine W.addI rfl rfl (by omega) rfl ?_ | refine W.addW rfl rfl rfl ?_
        refine W.assign rfl rfl ?_
        refine W.nil ?_
        refine At.thenCode ?_
        refine C.seq ?_
        refine C.region ?_
        refine W.move rfl rfl ?_
        refine W.move rfl rfl ?_
        refine W.convU (M := 256) rfl Try.underlying30 Try.underlying5 rfl rfl (by omega) rfl ?_
        refine W.len8 _ rfl Try.underlying9 rfl (by omega) rfl ?_
        intro T hT hT8
        first | refine W.convI rfl Try.underlying5 Try.underlying3 (by omega) rfl ?_ | refine W.conv rfl Try.underlying5 Try.underlying3 rfl ?_
        first | refine W.addI rfl rfl (by omega) rfl ?_ | refine W.addW rfl rfl rfl ?_
        refine W.assign rfl rfl ?_
        refine W.nil ?_
        refine At.thenCode ?_
        refine C.ret ?_
        refine At.ret1 Try.results71 rfl ?_
        first
        | exact ⟨⟨32 + (16 + (8 + T)), iV (by omega), lenP32 (by omega) (lenP16 (by omega) (lenP8 (by omega) hT)), by omega⟩, rfl⟩
        | exact ⟨⟨32 + (16 + T), iV (by omega), lenP32 (by omega) (lenP16 (by omega) hT), by omega⟩, rfl⟩
        | exact ⟨⟨32 + (8 + T), iV (by omega), lenP32 (by omega) (lenP8 (by omega) hT), by omega⟩, rfl⟩
        | exact ⟨⟨32 + T, iV (by omega), lenP32 (by omega) hT, by omega⟩, rfl⟩
        | exact ⟨⟨16 + (8 + T), iV (by omega), lenP16 (by omega) (lenP8 (by omega) hT), by omega⟩, rfl⟩
        | exact ⟨⟨16 + T, iV (by omega), lenP16 (by omega) hT, by omega⟩, rfl⟩
        | exact ⟨⟨8 + T, iV (by omega), lenP8 (by omega) hT, by omega⟩, rfl⟩
        | exact ⟨⟨T, iV (by omega), hT, by omega⟩, rfl⟩
      · refine C.skip ?_
        refine At.thenCode ?_
        refine C.seq ?_
        refine C.region ?_
        refine W.move rfl rfl ?_
        refine W.move rfl rfl ?_
        refine W.convU (M := 256) rfl Try.underlying30 Try.underlying5 rfl rfl (by omega) rfl ?_
        refine W.len8 _ rfl Try.underlying9 rfl (by omega) rfl ?_
        intro T hT hT8
        first | refine W.convI rfl Try.underlying5 Try.underlying3 (by omega) rfl ?_ | refine W.conv rfl Try.underlying5 Try.underlying3 rfl ?_
        first | refine W.addI rfl rfl (by omega) rfl ?_ | refine W.addW rfl rfl rfl ?_
        refine W.assign rfl rfl ?_
        refine W.nil ?_
        refine At.thenCode ?_
        refine C.ret ?_
        refine At.ret1 Try.results71 rfl ?_
        first
        | exact ⟨⟨32 + (16 + (8 + T)), iV (by omega), lenP32 (by omega) (lenP16 (by omega) (lenP8 (by omega) hT)), by omega⟩, rfl⟩
        | exact ⟨⟨32 + (16 + T), iV (by omega), lenP32 (by omega) (lenP16 (by omega) hT), by omega⟩, rfl⟩
        | exact ⟨⟨32 + (8 + T), iV (by omega), lenP32 (by omega) (lenP8 (by omega) hT), by omega⟩, rfl⟩
        | exact ⟨⟨32 + T, iV (by omega), lenP32 (by omega) hT, by omega⟩, rfl⟩
        | exact ⟨⟨16 + (8 + T), iV (by omega), lenP16 (by omega) (lenP8 (by omega) hT), by omega⟩, rfl⟩
        | exact ⟨⟨16 + T, iV (by omega), lenP16 (by omega) hT, by omega⟩, rfl⟩
        | exact ⟨⟨8 + T, iV (by omega), lenP8 (by omega) hT, by omega⟩, rfl⟩
        | exact ⟨⟨T, iV (by omega), hT, by omega⟩, rfl⟩
theorem LeadingZeros64_ok (x : Nat) (w : World) (h0 : 0 < x) (hx : x < 18446744073709551616) : Ct Try.prog 67 #[.int .u64 (x : Int)] w (fun v w' => (∃ s : Nat, v = .int .i64 (s : Int) ∧ s ≤ 64 ∧ 9223372036854775808 ≤ x * 2 ^ s ∧ x * 2 ^ s < 18446744073709551616) ∧ w = w') := by
  refine Ct.enter [(0, .int .u64 (x : Int))] Try.func67 rfl rfl rfl rfl ?_
  refine C.seq ?_
  refine C.region ?_
  refine W.assign rfl rfl ?_
  refine W.nil ?_
  refine At.thenCode ?_
  refine C.seq ?_
  refine C.region ?_
  refine W.move rfl rfl ?_
  refine W.call Try.call71 rfl (Len64_ok _ _ hx) rfl ?_
  rintro v w' ⟨⟨L, rfl, hL, hL64⟩, rfl⟩
  first | refine W.subI rfl rfl (by omega) rfl ?_ | refine W.subW rfl rfl rfl ?_
  refine W.assign rfl rfl ?_
  refine W.nil ?_
  refine At.thenCode ?_
  refine C.ret ?_
  refine At.ret1 Try.results67 rfl ?_
  obtain ⟨h1, h2⟩ := hL h0
  have e : 2 ^ L * 2 ^ (64 - L) = 18446744073709551616 := by rw [← Nat.pow_add, show L + (64 - L) = 64 by omega]
  have h3 := Nat.mul_le_mul_right (2 ^ (64 - L)) h1
  have h4 := Nat.mul_lt_mul_of_pos_right h2 (Nat.two_pow_pos (64 - L))
  rw [e] at h3 h4
  rw [Nat.mul_assoc] at h3
  exact ⟨⟨64 - L, iV (by omega), by omega, by omega, h4⟩, rfl⟩

/-! ### Dividing by halves -/
theorem D_start {Y y1 y0 u m : Nat} (hY : Y = 4294967296 * y1 + y0) (h1 : 2147483648 ≤ y1) (h1' : y1 < 4294967296) (h0 : y0 < 4294967296) (hm : m < 4294967296) (hu : u < Y) :
    y1 * (u / y1) + u % y1 = u ∧ u / y1 ≤ 4294967297 ∧ u % y1 < 4294967296 ∧ 4294967296 * u + m < Y * (u / y1) + Y := by
  have e := Nat.div_add_mod u y1
  have l := Nat.mod_lt u (show 0 < y1 by omega)
  have hq : u / y1 ≤ 4294967297 := by
    refine Nat.le_of_lt_succ ((Nat.div_lt_iff_lt_mul (by omega)).2 ?_)
    omega
  refine ⟨e, hq, by omega, ?_⟩
  have e2 : Y * (u / y1) = 4294967296 * (y1 * (u / y1)) + y0 * (u / y1) := by rw [hY, Nat.add_mul, Nat.mul_assoc]
  rw [e2]
  omega
theorem D_step {Y y1 y0 u q r m : Nat} (hY : Y = 4294967296 * y1 + y0) (hu : u < Y) (e : y1 * q + r = u) (hm : m < 4294967296) (hc : 4294967296 ≤ q ∨ 4294967296 * r + m < q * y0) :
    0 < q ∧ y1 * (q - 1) + (r + y1) = u ∧ 4294967296 * u + m < Y * (q - 1) + Y := by
  have h0 : 0 < q := by
    rcases Nat.eq_zero_or_pos q with h | h
    · subst h; rw [Nat.zero_mul] at hc; omega
    · exact h
  obtain ⟨p, rfl⟩ : ∃ p, q = p + 1 := ⟨q - 1, by omega⟩
  rw [Nat.add_sub_cancel]
  have e1 : y1 * (p + 1) = y1 * p + y1 := Nat.mul_succ _ _
  refine ⟨h0, by omega, ?_⟩
  have e2 : Y * p + Y = Y * (p + 1) := (Nat.mul_succ _ _).symm
  rw [e2]
  rcases hc with h | h
  · have h3 : Y * 4294967296 ≤ Y * (p + 1) := Nat.mul_le_mul_left _ h
    omega
  · have e3 : Y * (p + 1) = 4294967296 * (y1 * (p + 1)) + (p + 1) * y0 := by rw [hY, Nat.add_mul, Nat.mul_assoc, Nat.mul_comm y0]
    omega
theorem D_end {Y y1 y0 u q r m : Nat} (hY : Y = 4294967296 * y1 + y0) (h0 : y0 < 4294967296) (e : y1 * q + r = u) (hc : (4294967296 ≤ r ∧ q ≤ 4294967296) ∨ q * y0 ≤ 4294967296 * r + m) : Y * q ≤ 4294967296 * u + m := by
  have e3 : Y * q = 4294967296 * (y1 * q) + q * y0 := by rw [hY, Nat.add_mul, Nat.mul_assoc, Nat.mul_comm y0]
  rcases hc with ⟨h, h2⟩ | h
  · have h3 : q * y0 ≤ 4294967296 * y0 := Nat.mul_le_mul_right _ h2
    omega
  · omega
theorem D_un {Y u q m : Nat} (hY : Y ≤ 18446744073709551616) (h1 : Y * q ≤ 4294967296 * u + m) (h2 : 4294967296 * u + m < Y * q + Y) :
    subM 18446744073709551616 (addM 18446744073709551616 (mulM 18446744073709551616 u 4294967296) m) (mulM 18446744073709551616 q Y) = 4294967296 * u + m - Y * q := by
  unfold subM addM mulM
  rw [Nat.mul_comm u, Nat.mul_comm q]
  omega
theorem D_fin {n U Y q1 q2 y : Nat} (hU : 0 < U) (hY : Y = n * U) (e : y + Y * q1 = 4294967296 * U) (h1 : Y * q2 ≤ 4294967296 * y) (h2 : 4294967296 * y < Y * q2 + Y) : (4294967296 * y - Y * q2) / U = 18446744073709551616 % n := by
  have e2 : 4294967296 * y - Y * q2 + Y * (4294967296 * q1 + q2) = 18446744073709551616 * U := by
    rw [Nat.mul_add, ← Nat.mul_assoc, Nat.mul_comm Y 4294967296, Nat.mul_assoc]
    omega
  have h3 : 4294967296 * y - Y * q2 < Y := by omega
  generalize 4294967296 * y - Y * q2 = R at e2 h3 ⊢
  generalize 4294967296 * q1 + q2 = q at e2
  rw [hY] at e2 h3
  have e3 : R = U * (18446744073709551616 - n * q) := by
    rw [Nat.mul_sub, ← Nat.mul_assoc, Nat.mul_comm U n, Nat.mul_comm U]
    omega
  have h5 : n * q ≤ 18446744073709551616 := by
    refine Nat.le_of_mul_le_mul_right (c := U) ?_ hU
    rw [Nat.mul_assoc, Nat.mul_comm q, ← Nat.mul_assoc]
    omega
  rw [e3, Nat.mul_div_cancel_left _ hU]
  have h6 : 18446744073709551616 - n * q < n := by
    refine Nat.lt_of_mul_lt_mul_right (a := U) ?_
    rw [Nat.mul_comm _ U, ← e3]
    exact h3
  conv => rhs; rw [show 18446744073709551616 = 18446744073709551616 - n * q + n * q by omega, Nat.add_mul_mod_self_left, Nat.mod_eq_of_lt h6]
theorem Div64_1 (h n : Nat) (hh : (h = 0 ∧ n = 1) ∨ (h = 1 ∧ 2 ≤ n)) (hn : n < 18446744073709551616) (w : World) :
    Ct Try.prog 59 #[.int .u64 (h : Int), .int .u64 ((0 : Nat) : Int), .int .u64 (n : Int)] w (fun v w' => (∃ q : Nat, v = .tuple #[.int .u64 (q : Int), .int .u64 ((18446744073709551616 % n : Nat) : Int)]) ∧ Ext w w') := by
  refine Ct.enter [(0, .int .u64 (h : Int)), (1, .int .u64 ((0 : Nat) : Int)), (2, .int .u64 (n : Int))] Try.func59 rfl rfl rfl rfl ?_
  refine C.seq ?_
  refine C.region ?_
  refine W.assign rfl rfl ?_
  refine W.assign rfl rfl ?_
  refine W.nil ?_
  refine At.thenCode ?_
  refine C.seq ?_
  refine C.seq ?_
  refine C.region ?_
  refine W.move rfl rfl ?_
  refine W.eqlU (n := 0) rfl rfl rfl ?_
  refine W.eqv (bF (by omega)) ?_
  refine W.nil ?_
  refine At.thenCode ?_
  refine C.condF rfl ?_
  refine C.skip ?_
  refine At.thenCode ?_
  refine C.seq ?_
  refine C.seq ?_
  refine C.region ?_
  refine W.move rfl rfl ?_
  refine W.move rfl rfl ?_
  refine W.leqU rfl rfl rfl ?_
  refine W.eqv (bF (by omega)) ?_
  refine W.nil ?_
  refine At.thenCode ?_
  refine C.condF rfl ?_
  refine C.skip ?_
  refine At.thenCode ?_
  refine C.seq ?_
  refine C.seq ?_
  refine C.region ?_
  refine W.move rfl rfl ?_
  refine W.eqlU (n := 0) rfl rfl rfl ?_
  refine W.nil ?_
  refine At.thenCode ?_
  first | refine C.condD rfl (fun c27 => ?_) (fun c27 => ?_) | refine C.cond rfl (fun c27 => ?_) (fun c27 => ?_)
  · refine C.seq ?_
    refine C.regionAny 8 ((fun v w => v = .int .u64 ((0 : Nat) : Int)) :: (fun v w => v = .int .u64 (n : Int)) :: (fun v w => v = .int .u64 ((quoM 18446744073709551616 0 n : Nat) : Int)) :: (fun v w => v = .int .u64 ((0 : Nat) : Int)) :: (fun v w => v = .int .u64 (n : Int)) :: (fun v w => v = .int .u64 ((0 % n : Nat) : Int)) :: (fun v w => v = .int .u64 ((quoM 18446744073709551616 0 n : Nat) : Int)) :: (fun v w => v = .int .u64 ((0 % n : Nat) : Int)) :: []) [(1, .int .u64 ((0 : Nat) : Int)), (2, .int .u64 (n : Int))] [] (Sub.cons (rfl) (Sub.cons (rfl) (Sub.nil))) (Sub.nil) (Sub.cons (rfl) (Sub.cons (rfl) (Sub.nil))) (by kernel_rfl) rfl rfl rfl (And.intro (fun _ _ _ h _ => h) (And.intro (fun _ _ _ h _ => h) (And.intro (fun _ _ _ h _ => h) (And.intro (fun _ _ _ h _ => h) (And.intro (fun _ _ _ h _ => h) (And.intro (fun _ _ _ h _ => h) (And.intro (fun _ _ _ h _ => h) (And.intro (fun _ _ _ h _ => h) (trivial))))))))) ?_ ?_
    · refine And.intro ?_ ?_
      · intro L_ w6 hX_ hs_ hf_ hd_
        refine W.step [(1, _)] (Sub.cons (hs_ _ _ rfl) (Sub.refl _)) ?_
        refine W.move rfl rfl ?_
        refine W.nil ?_
        exact At.step (Ext.refl _) rfl
      refine And.intro ?_ ?_
      · intro L_ w6 hX_ hs_ hf_ hd_
        refine W.step [(2, _)] (Sub.cons (hs_ _ _ rfl) (Sub.refl _)) ?_
        refine W.move rfl rfl ?_
        refine W.nil ?_
        exact At.step (Ext.refl _) rfl
      refine And.intro ?_ ?_
      · intro L_ w6 hX_ hs_ hf_ hd_
        obtain ⟨v0, e0, r0⟩ := hd_ 0 rfl
        obtain rfl : (.int .u64 ((0 : Nat) : Int) : Value) = v0 := Eq.symm r0
        obtain ⟨v1, e1, r1⟩ := hd_ 1 rfl
        obtain rfl : (.int .u64 (n : Int) : Value) = v1 := Eq.symm r1
        refine W.step [(28, _), (29, _)] (Sub.cons (e0 _ rfl) (Sub.cons (e1 _ rfl) (Sub.refl _))) ?_
        refine W.quoU (M := 18446744073709551616) rfl rfl (by omega) rfl rfl rfl ?_
        refine W.nil ?_
        exact At.step (Ext.refl _) rfl
      refine And.intro ?_ ?_
      · intro L_ w6 hX_ hs_ hf_ hd_
        refine W.step [(1, _)] (Sub.cons (hs_ _ _ rfl) (Sub.refl _)) ?_
        refine W.move rfl rfl ?_
        refine W.nil ?_
        exact At.step (Ext.refl _) rfl
      refine And.intro ?_ ?_
      · intro L_ w6 hX_ hs_ hf_ hd_
        refine W.step [(2, _)] (Sub.cons (hs_ _ _ rfl) (Sub.refl _)) ?_
        refine W.move rfl rfl ?_
        refine W.nil ?_
        exact At.step (Ext.refl _) rfl
      refine And.intro ?_ ?_
      · intro L_ w6 hX_ hs_ hf_ hd_
        obtain ⟨v3, e3, r3⟩ := hd_ 3 rfl
        obtain rfl : (.int .u64 ((0 : Nat) : Int) : Value) = v3 := Eq.symm r3
        obtain ⟨v4, e4, r4⟩ := hd_ 4 rfl
        obtain rfl : (.int .u64 (n : Int) : Value) = v4 := Eq.symm r4
        refine W.step [(31, _), (32, _)] (Sub.cons (e3 _ rfl) (Sub.cons (e4 _ rfl) (Sub.refl _))) ?_
        refine W.remU rfl rfl (by omega) rfl ?_
        refine W.nil ?_
        exact At.step (Ext.refl _) rfl
      refine And.intro ?_ ?_
      · intro L_ w6 hX_ hs_ hf_ hd_
        obtain ⟨v2, e2, r2⟩ := hd_ 2 rfl
        obtain rfl : (.int .u64 ((quoM 18446744073709551616 0 n : Nat) : Int) : Value) = v2 := Eq.symm r2
        refine W.step [(30, _)] (Sub.cons (e2 _ rfl) (Sub.refl _)) ?_
        refine W.assign rfl rfl ?_
        refine W.nil ?_
        exact At.step (Ext.refl _) rfl
      refine And.intro ?_ ?_
      · intro L_ w6 hX_ hs_ hf_ hd_
        obtain ⟨v5, e5, r5⟩ := hd_ 5 rfl
        obtain rfl : (.int .u64 ((0 % n : Nat) : Int) : Value) = v5 := Eq.symm r5
        refine W.step [(33, _)] (Sub.cons (e5 _ rfl) (Sub.refl _)) ?_
        refine W.assign rfl rfl ?_
        refine W.nil ?_
        exact At.step (Ext.refl _) rfl
      exact trivial
    · intro L_ w6 hX6 hs_ hv_
      obtain ⟨v6, e6, r6⟩ := hv_ 6 (by decide)
      obtain rfl : (.int .u64 ((quoM 18446744073709551616 0 n : Nat) : Int) : Value) = v6 := Eq.symm r6
      obtain ⟨v7, e7, r7⟩ := hv_ 7 (by decide)
      obtain rfl : (.int .u64 ((0 % n : Nat) : Int) : Value) = v7 := Eq.symm r7
      refine W.weaken (l' := [(6, _), (7, _), (1, _), (2, _)]) (Sub.cons (e6 _ rfl) (Sub.cons (e7 _ rfl) (Sub.cons (hs_ _ _ rfl) (Sub.cons (hs_ _ _ rfl) (Sub.nil))))) ?_
      refine W.nil ?_
      refine At.thenCode ?_
      refine C.ret ?_
      refine At.thenRet ?_
      refine At.ret2 Try.results59 rfl rfl ?_
      obtain rfl : n = 1 := by omega
      exact ⟨⟨_, rfl⟩, hX6⟩
  · obtain rfl : h = 1 := by omega
    refine C.skip ?_
    refine At.thenCode ?_
    refine C.seq ?_
    refine C.region ?_
    refine W.move rfl rfl ?_
    refine W.call Try.call67 rfl (LeadingZeros64_ok n _ (by omega) hn) rfl ?_
    rintro v w' ⟨⟨s, rfl, hs64, hs1, hs2⟩, rfl⟩
    obtain ⟨U, hU⟩ : ∃ U, U = 2 ^ s := ⟨_, rfl⟩
    have hU0 : 0 < U := by rw [hU]; exact Nat.two_pow_pos s
    obtain ⟨Y, hY⟩ : ∃ Y, Y = n * U := ⟨_, rfl⟩
    rw [← hU, ← hY] at hs1 hs2
    have hUY : 2 * U ≤ Y := by rw [hY]; exact Nat.mul_le_mul_right _ (by omega)
    have hs63 : s ≤ 63 := by
      rcases Nat.lt_or_ge 63 s with hc | hc
      · obtain rfl : s = 64 := by omega
        simp at hU; omega
      · exact hc
    obtain ⟨y1, hy1⟩ : ∃ y1, y1 = Y / 4294967296 := ⟨_, rfl⟩
    obtain ⟨y0, hy0⟩ : ∃ y0, y0 = Y % 4294967296 := ⟨_, rfl⟩
    have hYe : Y = 4294967296 * y1 + y0 := by omega
    have hy1a : 2147483648 ≤ y1 := by omega
    have hy1b : y1 < 4294967296 := by omega
    have hy0b : y0 < 4294967296 := by omega
    first | refine W.convIN (M := 18446744073709551616) rfl Try.underlying3 Try.underlying45 rfl rfl (by omega) rfl ?_ | refine W.convIU (M := 18446744073709551616) rfl Try.underlying3 Try.underlying45 rfl rfl rfl ?_
    refine W.eqv (v' := .int .u64 (s : Int)) (iV (by omega)) ?_
    refine W.assign rfl rfl ?_
    refine W.nil ?_
    refine At.thenCode ?_
    refine C.seq ?_
    refine C.region ?_
    refine W.move rfl rfl ?_
    refine W.move rfl rfl ?_
    refine W.shlU (M := 18446744073709551616) (B := 64) rfl rfl rfl rfl rfl rfl ?_
    refine W.eqv (v' := .int .u64 (Y : Int)) (iV (by rw [shlM, show min s 64 = s by omega, ← hU, ← hY, Nat.mod_eq_of_lt hs2])) ?_
    refine W.assign rfl rfl ?_
    refine W.nil ?_
    refine At.thenCode ?_
    refine C.seq ?_
    refine C.region ?_
    refine W.move rfl rfl ?_
    refine W.shrU (B := 64) (s := 32) rfl rfl rfl rfl ?_
    rw [shr32_64, ← hy1]
    refine W.assign rfl rfl ?_
    refine W.nil ?_
    refine At.thenCode ?_
    refine C.seq ?_
    refine C.region ?_
    refine W.move rfl rfl ?_
    refine W.andU (M := 18446744073709551616) (n := 4294967295) rfl rfl rfl rfl rfl ?_
    rw [and32_64, ← hy0]
    refine W.assign rfl rfl ?_
    refine W.nil ?_
    refine At.thenCode ?_
    refine C.seq ?_
    refine C.region ?_
    refine W.move rfl rfl ?_
    refine W.move rfl rfl ?_
    refine W.shlU (M := 18446744073709551616) (B := 64) rfl rfl rfl rfl rfl rfl ?_
    refine W.move rfl rfl ?_
    refine W.move rfl rfl ?_
    refine W.subU (M := 18446744073709551616) (m := 64) rfl rfl rfl rfl rfl ?_
    refine W.shrU (B := 64) rfl rfl rfl rfl ?_
    refine W.orU (M := 18446744073709551616) rfl rfl rfl rfl rfl ?_
    refine W.eqv (v' := .int .u64 (U : Int)) (iV (by
      rw [iorM, shlM, shrM, show min s 64 = s by omega, ← hU, Nat.one_mul, Nat.zero_div, Nat.or_zero]
      omega)) ?_
    refine W.assign rfl rfl ?_
    refine W.nil ?_
    refine At.thenCode ?_
    refine C.seq ?_
    refine C.region ?_
    refine W.move rfl rfl ?_
    refine W.move rfl rfl ?_
    refine W.shlU (M := 18446744073709551616) (B := 64) rfl rfl rfl rfl rfl rfl ?_
    refine W.eqv (v' := .int .u64 ((0 : Nat) : Int)) (iV (by rw [shlM, Nat.zero_mul])) ?_
    refine W.assign rfl rfl ?_
    refine W.nil ?_
    refine At.thenCode ?_
    refine C.seq ?_
    refine C.region ?_
    refine W.move rfl rfl ?_
    refine W.shrU (B := 64) (s := 32) rfl rfl rfl rfl ?_
    refine W.eqv (v' := .int .u64 ((0 : Nat) : Int)) rfl ?_
    refine W.assign rfl rfl ?_
    refine W.nil ?_
    refine At.thenCode ?_
    refine C.seq ?_
    refine C.region ?_
    refine W.move rfl rfl ?_
    refine W.andU (M := 18446744073709551616) (n := 4294967295) rfl rfl rfl rfl rfl ?_
    refine W.eqv (v' := .int .u64 ((0 : Nat) : Int)) rfl ?_
    have hst := D_start (u := U) (m := 0) hYe hy1a hy1b hy0b (by decide) (by omega)
    refine W.assign rfl rfl ?_
    refine W.nil ?_
    refine At.thenCode ?_
    refine C.seq ?_
    refine C.region ?_
    refine W.move rfl rfl ?_
    refine W.move rfl rfl ?_
    refine W.quoU (M := 18446744073709551616) rfl rfl (by omega) rfl rfl rfl ?_
    refine W.eqv (v' := .int .u64 ((U / y1 : Nat) : Int)) (iV (by unfold quoM; rw [Nat.mod_eq_of_lt (Nat.lt_of_le_of_lt hst.2.1 (by decide))])) ?_
    refine W.assign rfl rfl ?_
    refine W.nil ?_
    refine At.thenCode ?_
    refine C.seq ?_
    refine C.region ?_
    refine W.move rfl rfl ?_
    refine W.move rfl rfl ?_
    refine W.move rfl rfl ?_
    refine W.mulU (M := 18446744073709551616) rfl rfl rfl rfl rfl ?_
    refine W.subU (M := 18446744073709551616) rfl rfl rfl rfl rfl ?_
    refine W.eqv (v' := .int .u64 ((U % y1 : Nat) : Int)) (iV (by
      have h5 := hst.1
      rw [Nat.mul_comm] at h5
      rw [mul64 (by omega), sub64 (by omega) (by omega)]
      omega)) ?_
    refine W.assign rfl rfl ?_
    refine W.nil ?_
    refine At.thenCode ?_
    refine C.seqMid (X := Nat) (fun x_ => [(2, .int .u64 (Y : Int)), (8, .int .u64 (s : Int)), (9, .int .u64 (y1 : Int)), (10, .int .u64 (y0 : Int)), (11, .int .u64 (U : Int)), (13, .int .u64 ((0 : Nat) : Int)), (14, .int .u64 ((0 : Nat) : Int)), (15, .int .u64 (x_ : Int))]) (fun x_ wm1 => w = wm1 ∧ Y * x_ ≤ 4294967296 * U + 0 ∧ 4294967296 * U + 0 < Y * x_ + Y) ?_ ?_
    · refine C.block ?_
      refine C.loop (X := Nat × Nat) (fun x_ => [(2, .int .u64 (Y : Int)), (8, .int .u64 (s : Int)), (9, .int .u64 (y1 : Int)), (10, .int .u64 (y0 : Int)), (11, .int .u64 (U : Int)), (13, .int .u64 ((0 : Nat) : Int)), (14, .int .u64 ((0 : Nat) : Int)), (15, .int .u64 (x_.1 : Int)), (16, .int .u64 (x_.2 : Int))]) (fun x_ w1 => w = w1 ∧ y1 * x_.1 + x_.2 = U ∧ x_.1 ≤ 4294967297 ∧ x_.2 < 4294967296 ∧ 4294967296 * U + 0 < Y * x_.1 + Y) (fun x_ => x_.1) (U / y1, U % y1) (Sub.cons (rfl) (Sub.cons (rfl) (Sub.cons (rfl) (Sub.cons (rfl) (Sub.cons (rfl) (Sub.cons (rfl) (Sub.cons (rfl) (Sub.cons (rfl) (Sub.cons (rfl) (Sub.nil)))))))))) ?start1 ?_
      case start1 =>
        show w = _ ∧ y1 * (U / y1) + (U % y1) = U ∧ (U / y1) ≤ 4294967297 ∧ (U % y1) < 4294967296 ∧ 4294967296 * U + 0 < Y * (U / y1) + Y
        exact ⟨rfl, hst.1, hst.2.1, hst.2.2.1, hst.2.2.2⟩
      rintro ⟨q, r⟩ w1 hI_
      replace hI_ : w = w1 ∧ y1 * q + r = U ∧ q ≤ 4294967297 ∧ r < 4294967296 ∧ 4294967296 * U + 0 < Y * q + Y := hI_
      obtain ⟨rfl, hq1, hq2, hq3, hq4⟩ := hI_
      refine C.weaken (l' := [(2, .int .u64 (Y : Int)), (8, .int .u64 (s : Int)), (9, .int .u64 (y1 : Int)), (10, .int .u64 (y0 : Int)), (11, .int .u64 (U : Int)), (13, .int .u64 ((0 : Nat) : Int)), (14, .int .u64 ((0 : Nat) : Int)), (15, .int .u64 (q : Int)), (16, .int .u64 (r : Int))]) (Sub.cons (rfl) (Sub.cons (rfl) (Sub.cons (rfl) (Sub.cons (rfl) (Sub.cons (rfl) (Sub.cons (rfl) (Sub.cons (rfl) (Sub.cons (rfl) (Sub.cons (rfl) (Sub.nil)))))))))) ?_
      refine C.seq ?_
      refine C.seq ?_
      refine C.region ?_
      refine W.move rfl rfl ?_
      refine W.geqU (n := 4294967296) rfl rfl rfl ?_
      refine W.move rfl rfl ?_
      first | refine W.splitD (fun g69 => ?_) (fun g69 => ?_) | refine W.splitB (fun g69 => ?_) (fun g69 => ?_)
      · have hsp := D_step (m := 0) hYe (by omega) hq1 (by decide) (Or.inl g69)
        refine W.skips rfl rfl rfl rfl rfl rfl ?_
        refine W.skips rfl rfl rfl rfl rfl rfl ?_
        refine W.skips rfl rfl rfl rfl rfl rfl ?_
        refine W.skips rfl rfl rfl rfl rfl rfl ?_
        refine W.skips rfl rfl rfl rfl rfl rfl ?_
        refine W.skips rfl rfl rfl rfl rfl rfl ?_
        refine W.skips rfl rfl rfl rfl rfl rfl ?_
        refine W.skips rfl rfl rfl rfl rfl rfl ?_
        refine W.pickT rfl rfl rfl ?_
        refine W.nil ?_
        refine At.thenCode ?_
        refine C.condT rfl ?_
        refine C.skip ?_
        refine At.thenCode ?_
        refine C.block ?_
        refine C.seq ?_
        refine C.region ?_
        refine W.move rfl rfl ?_
        refine W.subU (M := 18446744073709551616) (n := 1) rfl rfl rfl rfl rfl ?_
        have hqm : q - 1 + 1 = q := by have := hsp.1; omega
        rw [sub64 (by omega) (by omega)]
        refine W.assign rfl rfl ?_
        refine W.nil ?_
        refine At.thenCode ?_
        refine C.seq ?_
        refine C.region ?_
        refine W.move rfl rfl ?_
        refine W.move rfl rfl ?_
        refine W.addU (M := 18446744073709551616) rfl rfl rfl rfl rfl ?_
        rw [add64 (by omega)]
        refine W.assign rfl rfl ?_
        refine W.nil ?_
        refine At.thenCode ?_
        refine C.seq ?_
        refine C.region ?_
        refine W.move rfl rfl ?_
        refine W.geqU (n := 4294967296) rfl rfl rfl ?_
        refine W.nil ?_
        refine At.thenCode ?_
        first | refine C.condD rfl (fun c85 => ?_) (fun c85 => ?_) | refine C.cond rfl (fun c85 => ?_) (fun c85 => ?_)
        · refine C.exit ?_
          refine At.blockOther rfl ?_
          refine At.thenExit ?_
          refine At.blockSelf ?_
          refine At.thenMid (q - 1) (Sub.cons (rfl) (Sub.cons (rfl) (Sub.cons (rfl) (Sub.cons (rfl) (Sub.cons (rfl) (Sub.cons (rfl) (Sub.cons (rfl) (Sub.cons (rfl) (Sub.nil))))))))) (show w = _ ∧ Y * (q - 1) ≤ 4294967296 * U + 0 ∧ 4294967296 * U + 0 < Y * (q - 1) + Y from ?_)
          exact ⟨rfl, D_end hYe hy0b hsp.2.1 (Or.inl ⟨by omega, by omega⟩), hsp.2.2⟩
        · refine C.skip ?_
          refine At.blockNormal ?_
          refine At.thenRound (q - 1, r + y1) (Sub.cons (rfl) (Sub.cons (rfl) (Sub.cons (rfl) (Sub.cons (rfl) (Sub.cons (rfl) (Sub.cons (rfl) (Sub.cons (rfl) (Sub.cons (rfl) (Sub.cons (rfl) (Sub.nil)))))))))) (show w = _ ∧ y1 * (q - 1) + (r + y1) = U ∧ (q - 1) ≤ 4294967297 ∧ (r + y1) < 4294967296 ∧ 4294967296 * U + 0 < Y * (q - 1) + Y from ?_) (show (q - 1) < q from ?_)
          · exact ⟨rfl, hsp.2.1, by omega, by omega, hsp.2.2⟩
          · omega
      · refine W.wants rfl rfl rfl rfl ?_
        refine W.move rfl rfl ?_
        refine W.wants rfl rfl rfl rfl ?_
        refine W.move rfl rfl ?_
        refine W.wants rfl rfl rfl rfl ?_
        refine W.mulU (M := 18446744073709551616) rfl rfl rfl rfl rfl ?_
        have hqy : q * y0 < 18446744073709551616 := by
          have := Nat.mul_lt_mul'' (show q < 4294967296 by omega) hy0b
          omega
        rw [mul64 hqy]
        refine W.wants rfl rfl rfl rfl ?_
        refine W.move rfl rfl ?_
        refine W.wants rfl rfl rfl rfl ?_
        refine W.mulU (M := 18446744073709551616) (m := 4294967296) rfl rfl rfl rfl rfl ?_
        refine W.wants rfl rfl rfl rfl ?_
        refine W.move rfl rfl ?_
        refine W.wants rfl rfl rfl rfl ?_
        refine W.addU (M := 18446744073709551616) rfl rfl rfl rfl rfl ?_
        rw [mul64 (m := 4294967296) (by omega), add64 (by omega)]
        refine W.wants rfl rfl rfl rfl ?_
        refine W.gtrU rfl rfl rfl ?_
        refine W.pickF rfl rfl rfl ?_
        refine W.nil ?_
        refine At.thenCode ?_
        first | refine C.condD rfl (fun c78 => ?_) (fun c78 => ?_) | refine C.cond rfl (fun c78 => ?_) (fun c78 => ?_)
        · have hsp := D_step (m := 0) hYe (by omega) hq1 (by decide) (Or.inr c78)
          refine C.skip ?_
          refine At.thenCode ?_
          refine C.block ?_
          refine C.seq ?_
          refine C.region ?_
          refine W.move rfl rfl ?_
          refine W.subU (M := 18446744073709551616) (n := 1) rfl rfl rfl rfl rfl ?_
          have hqm : q - 1 + 1 = q := by have := hsp.1; omega
          rw [sub64 (by omega) (by omega)]
          refine W.assign rfl rfl ?_
          refine W.nil ?_
          refine At.thenCode ?_
          refine C.seq ?_
          refine C.region ?_
          refine W.move rfl rfl ?_
          refine W.move rfl rfl ?_
          refine W.addU (M := 18446744073709551616) rfl rfl rfl rfl rfl ?_
          rw [add64 (by omega)]
          refine W.assign rfl rfl ?_
          refine W.nil ?_
          refine At.thenCode ?_
          refine C.seq ?_
          refine C.region ?_
          refine W.move rfl rfl ?_
          refine W.geqU (n := 4294967296) rfl rfl rfl ?_
          refine W.nil ?_
          refine At.thenCode ?_
          first | refine C.condD rfl (fun c85 => ?_) (fun c85 => ?_) | refine C.cond rfl (fun c85 => ?_) (fun c85 => ?_)
          · refine C.exit ?_
            refine At.blockOther rfl ?_
            refine At.thenExit ?_
            refine At.blockSelf ?_
            refine At.thenMid (q - 1) (Sub.cons (rfl) (Sub.cons (rfl) (Sub.cons (rfl) (Sub.cons (rfl) (Sub.cons (rfl) (Sub.cons (rfl) (Sub.cons (rfl) (Sub.cons (rfl) (Sub.nil))))))))) (show w = _ ∧ Y * (q - 1) ≤ 4294967296 * U + 0 ∧ 4294967296 * U + 0 < Y * (q - 1) + Y from ?_)
            exact ⟨rfl, D_end hYe hy0b hsp.2.1 (Or.inl ⟨by omega, by omega⟩), hsp.2.2⟩
          · refine C.skip ?_
            refine At.blockNormal ?_
            refine At.thenRound (q - 1, r + y1) (Sub.cons (rfl) (Sub.cons (rfl) (Sub.cons (rfl) (Sub.cons (rfl) (Sub.cons (rfl) (Sub.cons (rfl) (Sub.cons (rfl) (Sub.cons (rfl) (Sub.cons (rfl) (Sub.nil)))))))))) (show w = _ ∧ y1 * (q - 1) + (r + y1) = U ∧ (q - 1) ≤ 4294967297 ∧ (r + y1) < 4294967296 ∧ 4294967296 * U + 0 < Y * (q - 1) + Y from ?_) (show (q - 1) < q from ?_)
            · exact ⟨rfl, hsp.2.1, by omega, by omega, hsp.2.2⟩
            · omega
        · refine C.exit ?_
          refine At.thenExit ?_
          refine At.thenExit ?_
          refine At.blockSelf ?_
          refine At.thenMid (q) (Sub.cons (rfl) (Sub.cons (rfl) (Sub.cons (rfl) (Sub.cons (rfl) (Sub.cons (rfl) (Sub.cons (rfl) (Sub.cons (rfl) (Sub.cons (rfl) (Sub.nil))))))))) (show w = _ ∧ Y * (q) ≤ 4294967296 * U + 0 ∧ 4294967296 * U + 0 < Y * (q) + Y from ?_)
          exact ⟨rfl, D_end hYe hy0b hq1 (Or.inr (by omega)), hq4⟩
    · rintro q1 wm1 hI_
      replace hI_ : w = wm1 ∧ Y * q1 ≤ 4294967296 * U + 0 ∧ 4294967296 * U + 0 < Y * q1 + Y := hI_
      obtain ⟨rfl, hz1, hw1⟩ := hI_
      refine C.weaken (l' := [(2, .int .u64 (Y : Int)), (8, .int .u64 (s : Int)), (9, .int .u64 (y1 : Int)), (10, .int .u64 (y0 : Int)), (11, .int .u64 (U : Int)), (13, .int .u64 ((0 : Nat) : Int)), (14, .int .u64 ((0 : Nat) : Int)), (15, .int .u64 (q1 : Int))]) (Sub.cons (rfl) (Sub.cons (rfl) (Sub.cons (rfl) (Sub.cons (rfl) (Sub.cons (rfl) (Sub.cons (rfl) (Sub.cons (rfl) (Sub.cons (rfl) (Sub.nil))))))))) ?_
      refine C.seq ?_
      refine C.region ?_
      refine W.move rfl rfl ?_
      refine W.mulU (M := 18446744073709551616) (n := 4294967296) rfl rfl rfl rfl rfl ?_
      refine W.move rfl rfl ?_
      refine W.addU (M := 18446744073709551616) rfl rfl rfl rfl rfl ?_
      refine W.move rfl rfl ?_
      refine W.move rfl rfl ?_
      refine W.mulU (M := 18446744073709551616) rfl rfl rfl rfl rfl ?_
      refine W.subU (M := 18446744073709551616) rfl rfl rfl rfl rfl ?_
      rw [D_un (by omega) hz1 hw1]
      obtain ⟨y, hy⟩ : ∃ y, y = 4294967296 * U + 0 - Y * q1 := ⟨_, rfl⟩
      rw [← hy]
      have hyY : y + Y * q1 = 4294967296 * U := by omega
      have hyl : y < Y := by omega
      have hst := D_start (u := y) (m := 0) hYe hy1a hy1b hy0b (by decide) hyl
      refine W.assign rfl rfl ?_
      refine W.nil ?_
      refine At.thenCode ?_
      refine C.seq ?_
      refine C.region ?_
      refine W.move rfl rfl ?_
      refine W.move rfl rfl ?_
      refine W.quoU (M := 18446744073709551616) rfl rfl (by omega) rfl rfl rfl ?_
      refine W.eqv (v' := .int .u64 ((y / y1 : Nat) : Int)) (iV (by unfold quoM; rw [Nat.mod_eq_of_lt (Nat.lt_of_le_of_lt hst.2.1 (by decide))])) ?_
      refine W.assign rfl rfl ?_
      refine W.nil ?_
      refine At.thenCode ?_
      refine C.seq ?_
      refine C.region ?_
      refine W.move rfl rfl ?_
      refine W.move rfl rfl ?_
      refine W.move rfl rfl ?_
      refine W.mulU (M := 18446744073709551616) rfl rfl rfl rfl rfl ?_
      refine W.subU (M := 18446744073709551616) rfl rfl rfl rfl rfl ?_
      refine W.eqv (v' := .int .u64 ((y % y1 : Nat) : Int)) (iV (by
        have h5 := hst.1
        rw [Nat.mul_comm] at h5
        rw [mul64 (by omega), sub64 (by omega) (by omega)]
        omega)) ?_
      refine W.assign rfl rfl ?_
      refine W.nil ?_
      refine At.thenCode ?_
      refine C.seqMid (X := Nat) (fun x_ => [(2, .int .u64 (Y : Int)), (8, .int .u64 (s : Int)), (9, .int .u64 (y1 : Int)), (10, .int .u64 (y0 : Int)), (14, .int .u64 ((0 : Nat) : Int)), (15, .int .u64 (q1 : Int)), (17, .int .u64 (y : Int)), (18, .int .u64 (x_ : Int))]) (fun x_ wm2 => w = wm2 ∧ Y * x_ ≤ 4294967296 * y + 0 ∧ 4294967296 * y + 0 < Y * x_ + Y) ?_ ?_
      · refine C.block ?_
        refine C.loop (X := Nat × Nat) (fun x_ => [(2, .int .u64 (Y : Int)), (8, .int .u64 (s : Int)), (9, .int .u64 (y1 : Int)), (10, .int .u64 (y0 : Int)), (14, .int .u64 ((0 : Nat) : Int)), (15, .int .u64 (q1 : Int)), (17, .int .u64 (y : Int)), (18, .int .u64 (x_.1 : Int)), (16, .int .u64 (x_.2 : Int))]) (fun x_ w2 => w = w2 ∧ y1 * x_.1 + x_.2 = y ∧ x_.1 ≤ 4294967297 ∧ x_.2 < 4294967296 ∧ 4294967296 * y + 0 < Y * x_.1 + Y) (fun x_ => x_.1) (y / y1, y % y1) (Sub.cons (rfl) (Sub.cons (rfl) (Sub.cons (rfl) (Sub.cons (rfl) (Sub.cons (rfl) (Sub.cons (rfl) (Sub.cons (rfl) (Sub.cons (rfl) (Sub.cons (rfl) (Sub.nil)))))))))) ?start2 ?_
        case start2 =>
          show w = _ ∧ y1 * (y / y1) + (y % y1) = y ∧ (y / y1) ≤ 4294967297 ∧ (y % y1) < 4294967296 ∧ 4294967296 * y + 0 < Y * (y / y1) + Y
          exact ⟨rfl, hst.1, hst.2.1, hst.2.2.1, hst.2.2.2⟩
        rintro ⟨q, r⟩ w2 hI_
        replace hI_ : w = w2 ∧ y1 * q + r = y ∧ q ≤ 4294967297 ∧ r < 4294967296 ∧ 4294967296 * y + 0 < Y * q + Y := hI_
        obtain ⟨rfl, hq1, hq2, hq3, hq4⟩ := hI_
        refine C.weaken (l' := [(2, .int .u64 (Y : Int)), (8, .int .u64 (s : Int)), (9, .int .u64 (y1 : Int)), (10, .int .u64 (y0 : Int)), (14, .int .u64 ((0 : Nat) : Int)), (15, .int .u64 (q1 : Int)), (17, .int .u64 (y : Int)), (18, .int .u64 (q : Int)), (16, .int .u64 (r : Int))]) (Sub.cons (rfl) (Sub.cons (rfl) (Sub.cons (rfl) (Sub.cons (rfl) (Sub.cons (rfl) (Sub.cons (rfl) (Sub.cons (rfl) (Sub.cons (rfl) (Sub.cons (rfl) (Sub.nil)))))))))) ?_
        refine C.seq ?_
        refine C.seq ?_
        refine C.region ?_
        refine W.move rfl rfl ?_
        refine W.geqU (n := 4294967296) rfl rfl rfl ?_
        refine W.move rfl rfl ?_
        first | refine W.splitD (fun g104 => ?_) (fun g104 => ?_) | refine W.splitB (fun g104 => ?_) (fun g104 => ?_)
        · have hsp := D_step (m := 0) hYe hyl hq1 (by decide) (Or.inl g104)
          refine W.skips rfl rfl rfl rfl rfl rfl ?_
          refine W.skips rfl rfl rfl rfl rfl rfl ?_
          refine W.skips rfl rfl rfl rfl rfl rfl ?_
          refine W.skips rfl rfl rfl rfl rfl rfl ?_
          refine W.skips rfl rfl rfl rfl rfl rfl ?_
          refine W.skips rfl rfl rfl rfl rfl rfl ?_
          refine W.skips rfl rfl rfl rfl rfl rfl ?_
          refine W.skips rfl rfl rfl rfl rfl rfl ?_
          refine W.pickT rfl rfl rfl ?_
          refine W.nil ?_
          refine At.thenCode ?_
          refine C.condT rfl ?_
          refine C.skip ?_
          refine At.thenCode ?_
          refine C.block ?_
          refine C.seq ?_
          refine C.region ?_
          refine W.move rfl rfl ?_
          refine W.subU (M := 18446744073709551616) (n := 1) rfl rfl rfl rfl rfl ?_
          have hqm : q - 1 + 1 = q := by have := hsp.1; omega
          rw [sub64 (by omega) (by omega)]
          refine W.assign rfl rfl ?_
          refine W.nil ?_
          refine At.thenCode ?_
          refine C.seq ?_
          refine C.region ?_
          refine W.move rfl rfl ?_
          refine W.move rfl rfl ?_
          refine W.addU (M := 18446744073709551616) rfl rfl rfl rfl rfl ?_
          rw [add64 (by omega)]
          refine W.assign rfl rfl ?_
          refine W.nil ?_
          refine At.thenCode ?_
          refine C.seq ?_
          refine C.region ?_
          refine W.move rfl rfl ?_
          refine W.geqU (n := 4294967296) rfl rfl rfl ?_
          refine W.nil ?_
          refine At.thenCode ?_
          first | refine C.condD rfl (fun c120 => ?_) (fun c120 => ?_) | refine C.cond rfl (fun c120 => ?_) (fun c120 => ?_)
          · refine C.exit ?_
            refine At.blockOther rfl ?_
            refine At.thenExit ?_
            refine At.blockSelf ?_
            refine At.thenMid (q - 1) (Sub.cons (rfl) (Sub.cons (rfl) (Sub.cons (rfl) (Sub.cons (rfl) (Sub.cons (rfl) (Sub.cons (rfl) (Sub.cons (rfl) (Sub.cons (rfl) (Sub.nil))))))))) (show w = _ ∧ Y * (q - 1) ≤ 4294967296 * y + 0 ∧ 4294967296 * y + 0 < Y * (q - 1) + Y from ?_)
            exact ⟨rfl, D_end hYe hy0b hsp.2.1 (Or.inl ⟨by omega, by omega⟩), hsp.2.2⟩
          · refine C.skip ?_
            refine At.blockNormal ?_
            refine At.thenRound (q - 1, r + y1) (Sub.cons (rfl) (Sub.cons (rfl) (Sub.cons (rfl) (Sub.cons (rfl) (Sub.cons (rfl) (Sub.cons (rfl) (Sub.cons (rfl) (Sub.cons (rfl) (Sub.cons (rfl) (Sub.nil)))))))))) (show w = _ ∧ y1 * (q - 1) + (r + y1) = y ∧ (q - 1) ≤ 4294967297 ∧ (r + y1) < 4294967296 ∧ 4294967296 * y + 0 < Y * (q - 1) + Y from ?_) (show (q - 1) < q from ?_)
            · exact ⟨rfl, hsp.2.1, by omega, by omega, hsp.2.2⟩
            · omega
        · refine W.wants rfl rfl rfl rfl ?_
          refine W.move rfl rfl ?_
          refine W.wants rfl rfl rfl rfl ?_
          refine W.move rfl rfl ?_
          refine W.wants rfl rfl rfl rfl ?_
          refine W.mulU (M := 18446744073709551616) rfl rfl rfl rfl rfl ?_
          have hqy : q * y0 < 18446744073709551616 := by
            have := Nat.mul_lt_mul'' (show q < 4294967296 by omega) hy0b
            omega
          rw [mul64 hqy]
          refine W.wants rfl rfl rfl rfl ?_
          refine W.move rfl rfl ?_
          refine W.wants rfl rfl rfl rfl ?_
          refine W.mulU (M := 18446744073709551616) (m := 4294967296) rfl rfl rfl rfl rfl ?_
          refine W.wants rfl rfl rfl rfl ?_
          refine W.move rfl rfl ?_
          refine W.wants rfl rfl rfl rfl ?_
          refine W.addU (M := 18446744073709551616) rfl rfl rfl rfl rfl ?_
          rw [mul64 (m := 4294967296) (by omega), add64 (by omega)]
          refine W.wants rfl rfl rfl rfl ?_
          refine W.gtrU rfl rfl rfl ?_
          refine W.pickF rfl rfl rfl ?_
          refine W.nil ?_
          refine At.thenCode ?_
          first | refine C.condD rfl (fun c113 => ?_) (fun c113 => ?_) | refine C.cond rfl (fun c113 => ?_) (fun c113 => ?_)
          · have hsp := D_step (m := 0) hYe hyl hq1 (by decide) (Or.inr c113)
            refine C.skip ?_
            refine At.thenCode ?_
            refine C.block ?_
            refine C.seq ?_
            refine C.region ?_
            refine W.move rfl rfl ?_
            refine W.subU (M := 18446744073709551616) (n := 1) rfl rfl rfl rfl rfl ?_
            have hqm : q - 1 + 1 = q := by have := hsp.1; omega
            rw [sub64 (by omega) (by omega)]
            refine W.assign rfl rfl ?_
            refine W.nil ?_
            refine At.thenCode ?_
            refine C.seq ?_
            refine C.region ?_
            refine W.move rfl rfl ?_
            refine W.move rfl rfl ?_
            refine W.addU (M := 18446744073709551616) rfl rfl rfl rfl rfl ?_
            rw [add64 (by omega)]
            refine W.assign rfl rfl ?_
            refine W.nil ?_
            refine At.thenCode ?_
            refine C.seq ?_
            refine C.region ?_
            refine W.move rfl rfl ?_
            refine W.geqU (n := 4294967296) rfl rfl rfl ?_
            refine W.nil ?_
            refine At.thenCode ?_
            first | refine C.condD rfl (fun c120 => ?_) (fun c120 => ?_) | refine C.cond rfl (fun c120 => ?_) (fun c120 => ?_)
            · refine C.exit ?_
              refine At.blockOther rfl ?_
              refine At.thenExit ?_
              refine At.blockSelf ?_
              refine At.thenMid (q - 1) (Sub.cons (rfl) (Sub.cons (rfl) (Sub.cons (rfl) (Sub.cons (rfl) (Sub.cons (rfl) (Sub.cons (rfl) (Sub.cons (rfl) (Sub.cons (rfl) (Sub.nil))))))))) (show w = _ ∧ Y * (q - 1) ≤ 4294967296 * y + 0 ∧ 4294967296 * y + 0 < Y * (q - 1) + Y from ?_)
              exact ⟨rfl, D_end hYe hy0b hsp.2.1 (Or.inl ⟨by omega, by omega⟩), hsp.2.2⟩
            · refine C.skip ?_
              refine At.blockNormal ?_
              refine At.thenRound (q - 1, r + y1) (Sub.cons (rfl) (Sub.cons (rfl) (Sub.cons (rfl) (Sub.cons (rfl) (Sub.cons (rfl) (Sub.cons (rfl) (Sub.cons (rfl) (Sub.cons (rfl) (Sub.cons (rfl) (Sub.nil)))))))))) (show w = _ ∧ y1 * (q - 1) + (r + y1) = y ∧ (q - 1) ≤ 4294967297 ∧ (r + y1) < 4294967296 ∧ 4294967296 * y + 0 < Y * (q - 1) + Y from ?_) (show (q - 1) < q from ?_)
              · exact ⟨rfl, hsp.2.1, by omega, by omega, hsp.2.2⟩
              · omega
          · refine C.exit ?_
            refine At.thenExit ?_
            refine At.thenExit ?_
            refine At.blockSelf ?_
            refine At.thenMid (q) (Sub.cons (rfl) (Sub.cons (rfl) (Sub.cons (rfl) (Sub.cons (rfl) (Sub.cons (rfl) (Sub.cons (rfl) (Sub.cons (rfl) (Sub.cons (rfl) (Sub.nil))))))))) (show w = _ ∧ Y * (q) ≤ 4294967296 * y + 0 ∧ 4294967296 * y + 0 < Y * (q) + Y from ?_)
            exact ⟨rfl, D_end hYe hy0b hq1 (Or.inr (by omega)), hq4⟩
      · rintro q2 wm2 hI_
        replace hI_ : w = wm2 ∧ Y * q2 ≤ 4294967296 * y + 0 ∧ 4294967296 * y + 0 < Y * q2 + Y := hI_
        obtain ⟨rfl, hz2, hw2⟩ := hI_
        refine C.weaken (l' := [(2, .int .u64 (Y : Int)), (8, .int .u64 (s : Int)), (9, .int .u64 (y1 : Int)), (10, .int .u64 (y0 : Int)), (14, .int .u64 ((0 : Nat) : Int)), (15, .int .u64 (q1 : Int)), (17, .int .u64 (y : Int)), (18, .int .u64 (q2 : Int))]) (Sub.cons (rfl) (Sub.cons (rfl) (Sub.cons (rfl) (Sub.cons (rfl) (Sub.cons (rfl) (Sub.cons (rfl) (Sub.cons (rfl) (Sub.cons (rfl) (Sub.nil))))))))) ?_
        refine C.seq ?_
        refine C.region ?_
        refine W.move rfl rfl ?_
        refine W.mulU (M := 18446744073709551616) (n := 4294967296) rfl rfl rfl rfl rfl ?_
        refine W.move rfl rfl ?_
        refine W.addU (M := 18446744073709551616) rfl rfl rfl rfl rfl ?_
        refine W.move rfl rfl ?_
        refine W.mulU (M := 18446744073709551616) (n := 4294967296) rfl rfl rfl rfl rfl ?_
        refine W.move rfl rfl ?_
        refine W.addU (M := 18446744073709551616) rfl rfl rfl rfl rfl ?_
        refine W.move rfl rfl ?_
        refine W.move rfl rfl ?_
        refine W.mulU (M := 18446744073709551616) rfl rfl rfl rfl rfl ?_
        refine W.subU (M := 18446744073709551616) rfl rfl rfl rfl rfl ?_
        rw [D_un (by omega) hz2 hw2]
        refine W.move rfl rfl ?_
        refine W.shrU (B := 64) rfl rfl rfl rfl ?_
        refine W.assign rfl rfl ?_
        refine W.assign rfl rfl ?_
        refine W.nil ?_
        refine At.thenCode ?_
        refine C.ret ?_
        refine At.ret2 Try.results59 rfl rfl ?_
        refine ⟨⟨addM 18446744073709551616 (mulM 18446744073709551616 q1 4294967296) q2, ?_⟩, Ext.refl _⟩
        have := D_fin hU0 hY hyY hz2 hw2
        rw [shrM, show min s 64 = s by omega, ← hU, ← this]
        rfl
theorem Rem64_1 (n : Nat) (h0 : 0 < n) (hn : n < 18446744073709551616) (w : World) :
    Ct Try.prog 46 #[.int .u64 ((1 : Nat) : Int), .int .u64 ((0 : Nat) : Int), .int .u64 (n : Int)] w (fun v w' => v = .int .u64 ((18446744073709551616 % n : Nat) : Int) ∧ Ext w w') := by
  refine Ct.enter [(0, .int .u64 ((1 : Nat) : Int)), (1, .int .u64 ((0 : Nat) : Int)), (2, .int .u64 (n : Int))] Try.func46 rfl rfl rfl rfl ?_
  refine C.seq ?_
  refine C.region ?_
  refine W.assign rfl rfl ?_
  refine W.nil ?_
  refine At.thenCode ?_
  refine C.seq ?_
  refine C.region ?_
  refine W.move rfl rfl ?_
  refine W.move rfl rfl ?_
  refine W.remU rfl rfl (by omega) rfl ?_
  have hh : (1 % n = 0 ∧ n = 1) ∨ (1 % n = 1 ∧ 2 ≤ n) := by
    rcases Nat.lt_or_ge 1 n with h | h
    · exact Or.inr ⟨Nat.mod_eq_of_lt h, h⟩
    · obtain rfl : n = 1 := by omega
      exact Or.inl ⟨rfl, rfl⟩
  refine W.move rfl rfl ?_
  refine W.move rfl rfl ?_
  refine W.call Try.call59 rfl (Div1.Div64_1 _ _ (by first | assumption | omega) (by omega) _) rfl ?_
  rintro v15 w15 ⟨⟨q15, rfl⟩, hX15⟩
  refine W.move rfl rfl ?_
  refine W.extract rfl rfl rfl ?_
  refine W.extract rfl rfl rfl ?_
  refine W.assign rfl rfl ?_
  refine W.assign rfl rfl ?_
  refine W.nil ?_
  refine At.thenCode ?_
  refine C.seq ?_
  refine C.region ?_
  refine W.move rfl rfl ?_
  refine W.assign rfl rfl ?_
  refine W.nil ?_
  refine At.thenCode ?_
  refine C.ret ?_
  refine At.ret1 Try.results46 rfl ?_
  exact ⟨rfl, hX15⟩
end Go.Proofs.Ytomfnficblnngaa.Div1
