/- The walks of chapter 3's laws. -/
import Derived.Test.YtmnndbebnojlgaaMac
namespace Go.Proofs.Ytmnndbebnojlgaa.Law3
open Go Go.RowKit Go.Proofs.Ytmnndbebnojlgaa.KW Go.Proofs.Ytmnndbebnojlgaa.Words Go.Proofs.Ytmnndbebnojlgaa.Sha Go.Proofs.Ytmnndbebnojlgaa.RSha Go.Proofs.Ytmnndbebnojlgaa.Mac
set_option linter.unusedVariables false
set_option linter.unusedSimpArgs false
set_option maxRecDepth 100000

theorem mac_nil : (macV [] []).take 4 = [0xb6, 0x13, 0x67, 0x9a] := by decide +kernel
theorem take_get {l r : List UInt8} {k : Nat} (h : l.take k = r) {i : Nat} (hi : i < k) : l[i]? = r[i]? := by rw [← h, List.getElem?_take, if_pos hi]
theorem key_get {l : List UInt8} {i : Nat} {b : UInt8} (h : l[i]? = some b) : (l.map byteV)[i]? = some (byteV b) := by rw [List.getElem?_map, h]; rfl

theorem alive_ok (w : World) : Ct Try.prog 22 #[] w (fun v w' => v = .bool true ∧ Ext w w') := by
  refine Ct.enter [] Try.func22 rfl rfl rfl rfl ?_
  refine C.seq ?_
  refine C.region ?_
  refine W.assign rfl rfl ?_
  refine W.nil ?_
  refine At.thenCode ?_
  refine C.seq ?_
  refine C.region ?_
  refine W.call Try.call23 rfl (Mac.Of_ok none 0 [] none 0 [] _ (Sl.none _ 1) (Sl.none _ 1) (by decide) (by decide)) rfl ?_
  rintro v2 w2 ⟨rfl, hX2⟩
  refine W.alloc (z := .agg (List.replicate 32 (byteV 0)).toArray) (List.replicate 32 (byteV 0)) (by kernel_rfl) rfl rfl ?_
  intro g1 w1 hg1 hX1 hB1
  have hl : (macV [] []).length = 32 := macV_length [] []
  refine W.storeA ((macV [] []).map byteV) rfl rfl hB1 (by rw [List.length_map, hl]; rfl) (by rw [List.length_map, hl]; kernel_rfl) (bytes_oneCell _) ?_
  intro w3 hc3 hB1
  refine W.nil ?_
  refine At.thenCode ?_
  refine C.seq ?_
  refine C.region ?_
  refine W.indexA1 (j := 0) Words.X8 Try.underlying25 rfl rfl (by first | omega | decide) rfl ?_
  refine W.loadB rfl Try.underlying5 rfl hB1 (key_get (take_get mac_nil (by decide))) rfl ?_
  refine W.eqlI rfl rfl rfl ?_
  refine W.eqv (bT (by decide)) ?_
  refine W.move rfl rfl ?_
  refine W.wants rfl rfl rfl rfl ?_
  refine W.indexA1 (j := 1) Words.X8 Try.underlying25 rfl rfl (by first | omega | decide) rfl ?_
  refine W.wants rfl rfl rfl rfl ?_
  refine W.loadB rfl Try.underlying5 rfl hB1 (key_get (take_get mac_nil (by decide))) rfl ?_
  refine W.wants rfl rfl rfl rfl ?_
  refine W.eqlI rfl rfl rfl ?_
  refine W.eqv (bT (by decide)) ?_
  refine W.pickT rfl rfl rfl ?_
  refine W.move rfl rfl ?_
  refine W.wants rfl rfl rfl rfl ?_
  refine W.indexA1 (j := 2) Words.X8 Try.underlying25 rfl rfl (by first | omega | decide) rfl ?_
  refine W.wants rfl rfl rfl rfl ?_
  refine W.loadB rfl Try.underlying5 rfl hB1 (key_get (take_get mac_nil (by decide))) rfl ?_
  refine W.wants rfl rfl rfl rfl ?_
  refine W.eqlI rfl rfl rfl ?_
  refine W.eqv (bT (by decide)) ?_
  refine W.pickT rfl rfl rfl ?_
  refine W.move rfl rfl ?_
  refine W.wants rfl rfl rfl rfl ?_
  refine W.indexA1 (j := 3) Words.X8 Try.underlying25 rfl rfl (by first | omega | decide) rfl ?_
  refine W.wants rfl rfl rfl rfl ?_
  refine W.loadB rfl Try.underlying5 rfl hB1 (key_get (take_get mac_nil (by decide))) rfl ?_
  refine W.wants rfl rfl rfl rfl ?_
  refine W.eqlI rfl rfl rfl ?_
  refine W.eqv (bT (by decide)) ?_
  refine W.pickT rfl rfl rfl ?_
  refine W.assign rfl rfl ?_
  refine W.nil ?_
  refine At.thenCode ?_
  refine C.ret ?_
  refine At.ret1 Try.results22 rfl ?_
  exact ⟨rfl, (hX2.ext hX1).news hc3 (fun k hk => Or.inr (by have := hX2.size; omega))⟩
theorem MacSums_walk (ao : Option Addr) (c : Nat) (key : List UInt8) (ap : Option Addr) (cp : Nat) (b : List UInt8) (w : World) (hS : Bs w ao c key) (hl : key.length ≤ 9223372036854775807) (hY : Bs w ap cp b) (hlb : b.length ≤ 9223372036854775807) :
    Ct Try.prog 8 #[.slice ao key.length c, .slice ap b.length cp] w (LawOk w) := by
  refine Ct.enter [(0, .slice ao key.length c), (1, .slice ap b.length cp)] Try.func8 rfl rfl rfl rfl ?_
  refine C.seq ?_
  refine C.region ?_
  refine W.assign rfl rfl ?_
  refine W.nil ?_
  refine At.thenCode ?_
  refine C.seq ?_
  refine C.region ?_
  refine W.call Try.call22 rfl (alive_ok _) rfl ?_
  rintro v6 w6 ⟨rfl, hX6⟩
  have hS := hS.ext hX6
  have hY := hY.ext hX6
  refine W.assign rfl rfl ?_
  refine W.nil ?_
  refine At.thenCode ?_
  refine C.seq ?_
  refine C.seq ?_
  refine C.region ?_
  refine W.move rfl rfl ?_
  first | refine W.notD rfl rfl ?_ | refine W.notB rfl rfl ?_
  refine W.move rfl rfl ?_
  refine W.wants rfl rfl rfl rfl ?_
  refine W.move rfl rfl ?_
  refine W.wants rfl rfl rfl rfl ?_
  refine W.lenS rfl Try.underlying23 rfl ?_
  refine W.wants rfl rfl rfl rfl ?_
  refine W.gtrI rfl rfl rfl ?_
  refine W.pickF rfl rfl rfl ?_
  refine W.move rfl rfl ?_
  first | refine W.splitD (fun g14 => ?_) (fun g14 => ?_) | refine W.splitB (fun g14 => ?_) (fun g14 => ?_)
  · refine W.skips rfl rfl rfl rfl rfl rfl ?_
    refine W.skips rfl rfl rfl rfl rfl rfl ?_
    refine W.skips rfl rfl rfl rfl rfl rfl ?_
    refine W.pickT rfl rfl rfl ?_
    refine W.nil ?_
    refine At.thenCode ?_
    refine C.condT rfl ?_
    refine C.seq ?_
    refine C.region ?_
    refine W.move rfl rfl ?_
    refine W.assign rfl rfl ?_
    refine W.nil ?_
    refine At.thenCode ?_
    refine C.ret ?_
    refine At.thenRet ?_
    refine At.ret1 Try.results8 rfl ?_
    exact ⟨rfl, hX6.below⟩
  · refine W.wants rfl rfl rfl rfl ?_
    refine W.move rfl rfl ?_
    refine W.wants rfl rfl rfl rfl ?_
    refine W.lenS rfl Try.underlying23 rfl ?_
    refine W.wants rfl rfl rfl rfl ?_
    refine W.gtrI rfl rfl rfl ?_
    refine W.pickF rfl rfl rfl ?_
    refine W.nil ?_
    refine At.thenCode ?_
    first | refine C.condD rfl (fun c18 => ?_) (fun c18 => ?_) | refine C.cond rfl (fun c18 => ?_) (fun c18 => ?_)
    · refine C.seq ?_
      refine C.region ?_
      refine W.move rfl rfl ?_
      refine W.assign rfl rfl ?_
      refine W.nil ?_
      refine At.thenCode ?_
      refine C.ret ?_
      refine At.thenRet ?_
      refine At.ret1 Try.results8 rfl ?_
      exact ⟨rfl, hX6.below⟩
    · refine C.skip ?_
      refine At.thenCode ?_
      refine C.seq ?_
      refine C.region ?_
      refine W.move rfl rfl ?_
      refine W.appendB E8 Try.underlying23 rfl rfl (Ow.nil _ _ 5) hS (by simp; omega) (Nat.le_refl _) rfl ?_
      rw [List.nil_append]
      intro v21 w21 ho21 hg21 _
      have hX21 : Ext w6 w21 := (Chg.of_grown hg21).mono fun k hk => by cases hk
      obtain ⟨ao21, c21, rfl, hS21, _⟩ := ownsRow_form ho21
      refine W.move rfl rfl ?_
      refine W.appendB E8 Try.underlying23 rfl rfl (Ow.nil _ _ 5) (hY.ext hX21) (by simp; omega) (Nat.le_refl _) rfl ?_
      rw [List.nil_append]
      intro v23 w23 ho23 hg23 _
      have hX23 : Ext w21 w23 := (Chg.of_grown hg23).mono fun k hk => by cases hk
      obtain ⟨ao23, c23, rfl, hS23, _⟩ := ownsRow_form ho23
      refine W.call Try.call23 rfl (Mac.Of_ok _ _ _ _ _ _ _ (hS21.ext hX23) hS23 (by omega) (by omega)) rfl ?_
      rintro v24 w24 ⟨rfl, hX24⟩
      refine W.move rfl rfl ?_
      refine W.move rfl rfl ?_
      refine W.call Try.call24 rfl (Mac.RMac_ok _ _ _ _ _ _ _ (((hS.ext hX21).ext hX23).ext hX24) (((hY.ext hX21).ext hX23).ext hX24) (by omega) (by omega)) rfl ?_
      rintro v27 w27 ⟨rfl, hX27⟩
      refine W.eqlKey (a := macV key b) (b := macV key b) Try.underlying25 Try.underlying5 (by kernel_rfl) rfl rfl (macV_length _ _) (macV_length _ _) (by kernel_rfl) rfl ?_
      refine W.eqv (bT (rfl)) ?_
      refine W.assign rfl rfl ?_
      refine W.nil ?_
      refine At.thenCode ?_
      refine C.ret ?_
      refine At.ret1 Try.results8 rfl ?_
      exact ⟨rfl, Ext.below ((((hX6.ext hX21).ext hX23).ext hX24).ext hX27)⟩
end Go.Proofs.Ytmnndbebnojlgaa.Law3
