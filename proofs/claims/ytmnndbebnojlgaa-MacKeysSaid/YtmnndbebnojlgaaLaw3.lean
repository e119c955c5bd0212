/- The walks of chapter 3's laws. -/
import Derived.Test.YtmnndbebnojlgaaMac
namespace Go.Proofs.Ytmnndbebnojlgaa.Law3
open Go Go.RowKit Go.Proofs.Ytmnndbebnojlgaa.KW Go.Proofs.Ytmnndbebnojlgaa.Words Go.Proofs.Ytmnndbebnojlgaa.Sha Go.Proofs.Ytmnndbebnojlgaa.RSha Go.Proofs.Ytmnndbebnojlgaa.Mac
set_option linter.unusedVariables false
set_option linter.unusedSimpArgs false
set_option maxRecDepth 100000

theorem mac_nil : (macV [] []).take 4 = [0xb6, 0x13, 0x67, 0x9a] := by decide +kernel
theorem take_get {l r : List UInt8} {k : Nat} (h : l.take k = r) {i : Nat} (hi : i < k) : l[i]? = r[i]? := by rw [← h, List.getElem?_take, if_pos hi]
theorem key_get {l : List UInt8} {i : Nat} {b : UInt8} (h : l[i]? = some b) : (l.map byteV)[i]? = some (byteV b) := by rw [List.getElem?_map, h]; rfl

theorem alive_ok (w : World) : Ct Try.prog 22 #[] w (fun v w' => v = .bool true ∧ Ext w w') := by
  refine Ct.enter [] Try.func22 rfl rfl rfl rfl ?_
  refine C.seq ?_
  refine C.region ?_
  refine W.assign rfl rfl ?_
  refine W.nil ?_
  refine At.thenCode ?_
  refine C.seq ?_
  refine C.region ?_
  refine W.call Try.call23 rfl (Mac.Of_ok none 0 [] none 0 [] _ (Sl.none _ 1) (Sl.none _ 1) (by decide) (by decide)) rfl ?_
  rintro v2 w2 ⟨rfl, hX2⟩
  refine W.alloc (z := .agg (List.replicate 32 (byteV 0)).toArray) (List.replicate 32 (byteV 0)) (by kernel_rfl) rfl rfl ?_
  intro g1 w1 hg1 hX1 hB1
  have hl : (macV [] []).length = 32 := macV_length [] []
  refine W.storeA ((macV [] []).map byteV) rfl rfl hB1 (by rw [List.length_map, hl]; rfl) (by rw [List.length_map, hl]; kernel_rfl) (bytes_oneCell _) ?_
  intro w3 hc3 hB1
  refine W.nil ?_
  refine At.thenCode ?_
  refine C.seq ?_
  refine C.region ?_
  refine W.indexA1 (j := 0) Words.X8 Try.underlying25 rfl rfl (by first | omega | decide) rfl ?_
  refine W.loadB rfl Try.underlying5 rfl hB1 (key_get (take_get mac_nil (by decide))) rfl ?_
  refine W.eqlI rfl rfl rfl ?_
  refine W.eqv (bT (by decide)) ?_
  refine W.move rfl rfl ?_
  refine W.wants rfl rfl rfl rfl ?_
  refine W.indexA1 (j := 1) Words.X8 Try.underlying25 rfl rfl (by first | omega | decide) rfl ?_
  refine W.wants rfl rfl rfl rfl ?_
  refine W.loadB rfl Try.underlying5 rfl hB1 (key_get (take_get mac_nil (by decide))) rfl ?_
  refine W.wants rfl rfl rfl rfl ?_
  refine W.eqlI rfl rfl rfl ?_
  refine W.eqv (bT (by decide)) ?_
  refine W.pickT rfl rfl rfl ?_
  refine W.move rfl rfl ?_
  refine W.wants rfl rfl rfl rfl ?_
  refine W.indexA1 (j := 2) Words.X8 Try.underlying25 rfl rfl (by first | omega | decide) rfl ?_
  refine W.wants rfl rfl rfl rfl ?_
  refine W.loadB rfl Try.underlying5 rfl hB1 (key_get (take_get mac_nil (by decide))) rfl ?_
  refine W.wants rfl rfl rfl rfl ?_
  refine W.eqlI rfl rfl rfl ?_
  refine W.eqv (bT (by decide)) ?_
  refine W.pickT rfl rfl rfl ?_
  refine W.move rfl rfl ?_
  refine W.wants rfl rfl rfl rfl ?_
  refine W.indexA1 (j := 3) Words.X8 Try.underlying25 rfl rfl (by first | omega | decide) rfl ?_
  refine W.wants rfl rfl rfl rfl ?_
  refine W.loadB rfl Try.underlying5 rfl hB1 (key_get (take_get mac_nil (by decide))) rfl ?_
  refine W.wants rfl rfl rfl rfl ?_
  refine W.eqlI rfl rfl rfl ?_
  refine W.eqv (bT (by decide)) ?_
  refine W.pickT rfl rfl rfl ?_
  refine W.assign rfl rfl ?_
  refine W.nil ?_
  refine At.thenCode ?_
  refine C.ret ?_
  refine At.ret1 Try.results22 rfl ?_
  exact ⟨rfl, (hX2.ext hX1).news hc3 (fun k hk => Or.inr (by have := hX2.size; omega))⟩
theorem MacSums_walk (ao : Option Addr) (c : Nat) (key : List UInt8) (ap : Option Addr) (cp : Nat) (b : List UInt8) (w : World) (hS : Bs w ao c key) (hl : key.length ≤ 9223372036854775807) (hY : Bs w ap cp b) (hlb : b.length ≤ 9223372036854775807) :
    Ct Try.prog 8 #[.slice ao key.length c, .slice ap b.length cp] w (LawOk w) := by
  refine Ct.enter [(0, .slice ao key.length c), (1, .slice ap b.length cp)] Try.func8 rfl rfl rfl rfl ?_
  refine C.seq ?_
  refine C.region ?_
  refine W.assign rfl rfl ?_
  refine W.nil ?_
  refine At.thenCode ?_
  refine C.seq ?_
  refine C.region ?_
  refine W.call Try.call22 rfl (alive_ok _) rfl ?_
  rintro v6 w6 ⟨rfl, hX6⟩
  have hS := hS.ext hX6
  have hY := hY.ext hX6
  refine W.assign rfl rfl ?_
  refine W.nil ?_
  refine At.thenCode ?_
  refine C.seq ?_
  refine C.seq ?_
  refine C.region ?_
  refine W.move rfl rfl ?_
  first | refine W.notD rfl rfl ?_ | refine W.notB rfl rfl ?_
  refine W.move rfl rfl ?_
  refine W.wants rfl rfl rfl rfl ?_
  refine W.move rfl rfl ?_
  refine W.wants rfl rfl rfl rfl ?_
  refine W.lenS rfl Try.underlying23 rfl ?_
  refine W.wants rfl rfl rfl rfl ?_
  refine W.gtrI rfl rfl rfl ?_
  refine W.pickF rfl rfl rfl ?_
  refine W.move rfl rfl ?_
  first | refine W.splitD (fun g14 => ?_) (fun g14 => ?_) | refine W.splitB (fun g14 => ?_) (fun g14 => ?_)
  · refine W.skips rfl rfl rfl rfl rfl rfl ?_
    refine W.skips rfl rfl rfl rfl rfl rfl ?_
    refine W.skips rfl rfl rfl rfl rfl rfl ?_
    refine W.pickT rfl rfl rfl ?_
    refine W.nil ?_
    refine At.thenCode ?_
    refine C.condT rfl ?_
    refine C.seq ?_
    refine C.region ?_
    refine W.move rfl rfl ?_
    refine W.assign rfl rfl ?_
    refine W.nil ?_
    refine At.thenCode ?_
    refine C.ret ?_
    refine At.thenRet ?_
    refine At.ret1 Try.results8 rfl ?_
    exact ⟨rfl, hX6.below⟩
  · refine W.wants rfl rfl rfl rfl ?_
    refine W.move rfl rfl ?_
    refine W.wants rfl rfl rfl rfl ?_
    refine W.lenS rfl Try.underlying23 rfl ?_
    refine W.wants rfl rfl rfl rfl ?_
    refine W.gtrI rfl rfl rfl ?_
    refine W.pickF rfl rfl rfl ?_
    refine W.nil ?_
    refine At.thenCode ?_
    first | refine C.condD rfl (fun c18 => ?_) (fun c18 => ?_) | refine C.cond rfl (fun c18 => ?_) (fun c18 => ?_)
    · refine C.seq ?_
      refine C.region ?_
      refine W.move rfl rfl ?_
      refine W.assign rfl rfl ?_
      refine W.nil ?_
      refine At.thenCode ?_
      refine C.ret ?_
      refine At.thenRet ?_
      refine At.ret1 Try.results8 rfl ?_
      exact ⟨rfl, hX6.below⟩
    · refine C.skip ?_
      refine At.thenCode ?_
      refine C.seq ?_
      refine C.region ?_
      refine W.move rfl rfl ?_
      refine W.appendB E8 Try.underlying23 rfl rfl (Ow.nil _ _ 5) hS (by simp; omega) (Nat.le_refl _) rfl ?_
      rw [List.nil_append]
      intro v21 w21 ho21 hg21 _
      have hX21 : Ext w6 w21 := (Chg.of_grown hg21).mono fun k hk => by cases hk
      obtain ⟨ao21, c21, rfl, hS21, _⟩ := ownsRow_form ho21
      refine W.move rfl rfl ?_
      refine W.appendB E8 Try.underlying23 rfl rfl (Ow.nil _ _ 5) (hY.ext hX21) (by simp; omega) (Nat.le_refl _) rfl ?_
      rw [List.nil_append]
      intro v23 w23 ho23 hg23 _
      have hX23 : Ext w21 w23 := (Chg.of_grown hg23).mono fun k hk => by cases hk
      obtain ⟨ao23, c23, rfl, hS23, _⟩ := ownsRow_form ho23
      refine W.call Try.call23 rfl (Mac.Of_ok _ _ _ _ _ _ _ (hS21.ext hX23) hS23 (by omega) (by omega)) rfl ?_
      rintro v24 w24 ⟨rfl, hX24⟩
      refine W.move rfl rfl ?_
      refine W.move rfl rfl ?_
      refine W.call Try.call24 rfl (Mac.RMac_ok _ _ _ _ _ _ _ (((hS.ext hX21).ext hX23).ext hX24) (((hY.ext hX21).ext hX23).ext hX24) (by omega) (by omega)) rfl ?_
      rintro v27 w27 ⟨rfl, hX27⟩
      refine W.eqlKey (a := macV key b) (b := macV key b) Try.underlying25 Try.underlying5 (by kernel_rfl) rfl rfl (macV_length _ _) (macV_length _ _) (by kernel_rfl) rfl ?_
      refine W.eqv (bT (rfl)) ?_
      refine W.assign rfl rfl ?_
      refine W.nil ?_
      refine At.thenCode ?_
      refine C.ret ?_
      refine At.ret1 Try.results8 rfl ?_
      exact ⟨rfl, Ext.below ((((hX6.ext hX21).ext hX23).ext hX24).ext hX27)⟩

theorem macV_sum {key : List UInt8} (h : 64 < key.length) (b : List UInt8) : macV (shaV key) b = macV key b := by
  have e1 : shortK key = shaV key := by unfold shortK; rw [if_pos h]
  have e2 : shortK (shaV key) = shaV key := by unfold shortK; rw [if_neg (by rw [shaV_length]; omega)]
  unfold macV
  rw [e1, e2]
theorem macV_zeros {key : List UInt8} {z : Nat} (h : key.length + z ≤ 64) (b : List UInt8) : macV (key ++ List.replicate z 0) b = macV key b := by
  have e1 : shortK key = key := by unfold shortK; rw [if_neg (by omega)]
  have e2 : shortK (key ++ List.replicate z 0) = key ++ List.replicate z 0 := by unfold shortK; rw [if_neg (by simp; omega)]
  have e3 : pad64 (key ++ List.replicate z 0) = pad64 key := by
    unfold pad64
    rw [List.append_assoc, List.replicate_append_replicate, List.length_append, List.length_replicate]
    congr 2
    omega
  unfold macV
  rw [e1, e2, e3]
theorem MacDefined_walk (key : List UInt8) (ap : Option Addr) (cp : Nat) (b : List UInt8) (w : World) (hk : key.length = 32) (hY : Bs w ap cp b) (hlb : b.length ≤ 9223372036854775807) :
    Ct Try.prog 10 #[keyV key, .slice ap b.length cp] w (LawOk w) := by
  refine Ct.enter [(0, keyV key), (1, .slice ap b.length cp)] Try.func10 rfl rfl rfl rfl ?_
  have hsk : shortK key = key := by unfold shortK; rw [if_neg (by omega)]
  obtain ⟨kp, hkp⟩ : ∃ kp, kp = pad64 key := ⟨_, rfl⟩
  have hkl : kp.length = 64 := by rw [hkp]; exact pad64_length (by omega)
  have hm1 := maskB_length 54 kp
  have hm2 := maskB_length 92 kp
  refine C.seq ?_
  refine C.region ?_
  refine W.box (key.map byteV) rfl rfl rfl ?_
  intro g2 w2 hg2 hX2 hB2
  refine W.assign rfl rfl ?_
  refine W.nil ?_
  refine At.thenCode ?_
  refine C.seq ?_
  refine C.region ?_
  refine W.call Try.call22 rfl (alive_ok _) rfl ?_
  rintro v11 w11 ⟨rfl, hX11⟩
  have hY := (hY.ext hX2).ext hX11
  have hB2 := hB2.ext hX11
  have hXk := hX2.ext hX11
  refine W.assign rfl rfl ?_
  refine W.nil ?_
  refine At.thenCode ?_
  refine C.seq ?_
  refine C.seq ?_
  refine C.region ?_
  refine W.move rfl rfl ?_
  first | refine W.notD rfl rfl ?_ | refine W.notB rfl rfl ?_
  refine W.move rfl rfl ?_
  refine W.wants rfl rfl rfl rfl ?_
  refine W.move rfl rfl ?_
  refine W.wants rfl rfl rfl rfl ?_
  refine W.lenS rfl Try.underlying23 rfl ?_
  refine W.wants rfl rfl rfl rfl ?_
  refine W.gtrI rfl rfl rfl ?_
  refine W.pickF rfl rfl rfl ?_
  refine W.nil ?_
  refine At.thenCode ?_
  first | refine C.condD rfl (fun c18 => ?_) (fun c18 => ?_) | refine C.cond rfl (fun c18 => ?_) (fun c18 => ?_)
  · refine C.seq ?_
    refine C.region ?_
    refine W.move rfl rfl ?_
    refine W.assign rfl rfl ?_
    refine W.nil ?_
    refine At.thenCode ?_
    refine C.ret ?_
    refine At.thenRet ?_
    refine At.ret1 Try.results10 rfl ?_
    exact ⟨rfl, Ext.below hXk⟩
  · refine C.skip ?_
    refine At.thenCode ?_
    refine C.seq ?_
    refine C.region ?_
    refine W.makeB (k := 64) E8 Try.underlying23 rfl rfl rfl rfl (by decide) (by decide) rfl ?_
    intro g17 w17 hg17 hX17 ho17
    have hl17 := hB2.lt
    refine W.assign rfl rfl ?_
    refine W.nil ?_
    refine At.thenCode ?_
    refine C.seq ?_
    refine C.region ?_
    refine W.makeB (k := 64) E8 Try.underlying23 rfl rfl rfl rfl (by decide) (by decide) rfl ?_
    intro g18 w18 hg18 hX18 ho18
    have hsz := hXk.size
    have hsz17 := hX17.size
    have hlt17 := (World.ownsRow.lt ho17 g17 rfl).2
    have hnn : g17 ≠ g18 ∧ g2 ≠ g17 ∧ g2 ≠ g18 ∧ w.heap.size ≤ g17 ∧ w.heap.size ≤ g18 := by omega
    have ho17 := ownsRow_base (ownsRow_ext ho17 hX18) hsz
    have ho18 := ownsRow_base ho18 (Nat.le_trans hsz hsz17)
    have hXs := (hXk.ext hX17).ext hX18
    have hpa : ∀ ad, ap = some ad → b.map byteV ≠ [] → ad.block < g17 := fun ad e hne => by have := Sl.blk hY e hne; omega
    refine W.assign rfl rfl ?_
    refine W.nil ?_
    refine At.thenCode ?_
    refine C.seq ?_
    refine C.seq ?_
    refine C.region ?_
    refine W.assign rfl rfl ?_
    refine W.nil ?_
    refine At.thenCode ?_
    refine C.block ?_
    refine C.loop (X := Nat) (fun x_ => [(1, .slice ap b.length cp), (2, .pointer (some ⟨g2, 0, none⟩)), (6, .slice (some ⟨g17, 0, none⟩) 64 64), (7, .slice (some ⟨g18, 0, none⟩) 64 64), (8, .int .i64 (x_ : Int))]) (fun x_ w1 => Ext w w1 ∧ x_ ≤ 64 ∧ Bk w1 g2 (key.map byteV) ∧ Bs w1 ap cp b ∧ World.ownsRow w1 w.heap.size 5 1 (.slice (some ⟨g17, 0, none⟩) 64 64) 64 ((fill64 54 kp x_).map byteV) ∧ World.ownsRow w1 w.heap.size 5 1 (.slice (some ⟨g18, 0, none⟩) 64 64) 64 ((fill64 92 kp x_).map byteV)) (fun x_ => 64 - x_) (0) (Sub.cons (rfl) (Sub.cons (rfl) (Sub.cons (rfl) (Sub.cons (rfl) (Sub.cons (rfl) (Sub.nil)))))) ?start1 ?_
    case start1 =>
      show Ext w _ ∧ (0) ≤ 64 ∧ Bk _ g2 (key.map byteV) ∧ Bs _ ap cp b ∧ World.ownsRow _ w.heap.size 5 1 (.slice (some ⟨g17, 0, none⟩) 64 64) 64 ((fill64 54 kp (0)).map byteV) ∧ World.ownsRow _ w.heap.size 5 1 (.slice (some ⟨g18, 0, none⟩) 64 64) 64 ((fill64 92 kp (0)).map byteV)
      exact ⟨hXs, by omega, (hB2.ext hX17).ext hX18, (hY.ext hX17).ext hX18, ho17, ho18⟩
    rintro i w1 hI_
    replace hI_ : Ext w w1 ∧ i ≤ 64 ∧ Bk w1 g2 (key.map byteV) ∧ Bs w1 ap cp b ∧ World.ownsRow w1 w.heap.size 5 1 (.slice (some ⟨g17, 0, none⟩) 64 64) 64 ((fill64 54 kp i).map byteV) ∧ World.ownsRow w1 w.heap.size 5 1 (.slice (some ⟨g18, 0, none⟩) 64 64) 64 ((fill64 92 kp i).map byteV) := hI_
    obtain ⟨hX1, hi, hB2, hY, hO17, hO18⟩ := hI_
    refine C.weaken (l' := [(1, .slice ap b.length cp), (2, .pointer (some ⟨g2, 0, none⟩)), (6, .slice (some ⟨g17, 0, none⟩) 64 64), (7, .slice (some ⟨g18, 0, none⟩) 64 64), (8, .int .i64 (i : Int))]) (Sub.cons (rfl) (Sub.cons (rfl) (Sub.cons (rfl) (Sub.cons (rfl) (Sub.cons (rfl) (Sub.nil)))))) ?_
    refine C.seq ?_
    refine C.seq ?_
    refine C.region ?_
    refine W.move rfl rfl ?_
    refine W.lssI rfl rfl rfl ?_
    refine W.nil ?_
    refine At.thenCode ?_
    first | refine C.condD rfl (fun c23 => ?_) (fun c23 => ?_) | refine C.cond rfl (fun c23 => ?_) (fun c23 => ?_)
    · refine C.skip ?_
      refine At.thenCode ?_
      refine C.seq ?_
      refine C.block ?_
      refine C.seq ?_
      refine C.region ?_
      refine W.assign rfl rfl ?_
      refine W.nil ?_
      refine At.thenCode ?_
      refine C.seq ?_
      refine C.seq ?_
      refine C.region ?_
      refine W.move rfl rfl ?_
      refine W.lssI rfl rfl rfl ?_
      refine W.nil ?_
      refine At.thenCode ?_
      first | refine C.condD rfl (fun c27 => ?_) (fun c27 => ?_) | refine C.cond rfl (fun c27 => ?_) (fun c27 => ?_)
      · refine C.region ?_
        refine W.move rfl rfl ?_
        refine W.indexA1 Words.X8 Try.underlying25 rfl rfl (by first | omega | decide) rfl ?_
        have hlt : i < key.length := by omega
        refine W.loadB (v := byteV (kp.getD i 0)) rfl Try.underlying5 rfl hB2 (by rw [hkp, pad64_get hlt]; exact get_byte hlt) rfl ?_
        refine W.assign rfl rfl ?_
        refine W.nil ?_
        refine At.thenCode ?_
        refine C.seq ?_
        refine C.region ?_
        refine W.move rfl rfl ?_
        refine W.move rfl rfl ?_
        refine W.move rfl rfl ?_
        refine W.eqv (v' := byteV (kp.getD i 0)) (by first | rfl | (rw [hz]; rfl)) ?_
        refine W.xorU (M := 256) (n := 54) rfl rfl rfl rfl rfl ?_
        refine W.eqv (v' := byteV (kp.getD i 0 ^^^ 54)) (by rw [show (54 : Nat) = (54 : UInt8).toNat from rfl, xor_byte]; rfl) ?_
        refine W.indexS E8 Try.underlying23 rfl (own_sl hO17) rfl (by omega) rfl ?_
        intro ad35 _ had35 _
        obtain rfl : ad35 = ⟨g17, i, none⟩ := by rw [had35 _ rfl, add_mk, Int.toNat_natCast, Nat.zero_add, Nat.mul_one]
        refine W.storeO rfl rfl rfl hO17 (by omega) (by kernel_rfl) ?_
        intro w9 hc9 hO9
        rw [← List.map_set, fill64_set hkl (by omega)] at hO9
        have hO18 := ownsRow_chg hO18 hc9 (fun k hk => by have h8 : g18 = k := Option.some.inj hk
                                                          omega)
        refine W.nil ?_
        refine At.thenCode ?_
        refine C.region ?_
        refine W.move rfl rfl ?_
        refine W.move rfl rfl ?_
        refine W.move rfl rfl ?_
        refine W.eqv (v' := byteV (kp.getD i 0)) (by first | rfl | (rw [hz]; rfl)) ?_
        refine W.xorU (M := 256) (n := 92) rfl rfl rfl rfl rfl ?_
        refine W.eqv (v' := byteV (kp.getD i 0 ^^^ 92)) (by rw [show (92 : Nat) = (92 : UInt8).toNat from rfl, xor_byte]; rfl) ?_
        refine W.indexS E8 Try.underlying23 rfl (own_sl hO18) rfl (by omega) rfl ?_
        intro ad40 _ had40 _
        obtain rfl : ad40 = ⟨g18, i, none⟩ := by rw [had40 _ rfl, add_mk, Int.toNat_natCast, Nat.zero_add, Nat.mul_one]
        refine W.storeO rfl rfl rfl hO18 (by omega) (by kernel_rfl) ?_
        intro w10 hc10 hO10
        rw [← List.map_set, fill64_set hkl (by omega)] at hO10
        have hO9 := ownsRow_chg hO9 hc10 (fun k hk => by have h8 : g17 = k := Option.some.inj hk
                                                         omega)
        refine W.nil ?_
        refine At.blockNormal ?_
        refine At.thenCode ?_
        refine C.region ?_
        refine W.move rfl rfl ?_
        first | refine W.addI rfl rfl (by omega) rfl ?_ | refine W.addW rfl rfl rfl ?_
        refine W.assign rfl rfl ?_
        refine W.nil ?_
        refine At.thenRound (i + 1) (Sub.cons (rfl) (Sub.cons (rfl) (Sub.cons (rfl) (Sub.cons (rfl) (Sub.cons (look_eq rfl (by rw [show (i : Int) + 1 = ((i + 1 : Nat) : Int) by omega])) (Sub.nil)))))) (show Ext w _ ∧ (i + 1) ≤ 64 ∧ Bk _ g2 (key.map byteV) ∧ Bs _ ap cp b ∧ World.ownsRow _ w.heap.size 5 1 (.slice (some ⟨g17, 0, none⟩) 64 64) 64 ((fill64 54 kp (i + 1)).map byteV) ∧ World.ownsRow _ w.heap.size 5 1 (.slice (some ⟨g18, 0, none⟩) 64 64) 64 ((fill64 92 kp (i + 1)).map byteV) from ?_) (show 64 - (i + 1) < 64 - i from ?_)
        · exact ⟨(hX1.news hc9 (fun k hk => Or.inr (by omega))).news hc10 (fun k hk => Or.inr (by omega)), by omega, (hB2.chg hc9 (by omega)).chg hc10 (by omega), Sl.chg (Sl.chg hY hc9 (fun ad e hne hk => by have := hpa ad e hne; omega)) hc10 (fun ad e hne hk => by have := hpa ad e hne; omega), hO9, hO10⟩
        · omega
      · have hz : kp.getD i 0 = 0 := by rw [hkp]; exact pad64_zero (by omega) (by omega)
        refine C.skip ?_
        refine At.thenCode ?_
        refine C.seq ?_
        refine C.region ?_
        refine W.move rfl rfl ?_
        refine W.move rfl rfl ?_
        refine W.move rfl rfl ?_
        refine W.eqv (v' := byteV (kp.getD i 0)) (by first | rfl | (rw [hz]; rfl)) ?_
        refine W.xorU (M := 256) (n := 54) rfl rfl rfl rfl rfl ?_
        refine W.eqv (v' := byteV (kp.getD i 0 ^^^ 54)) (by rw [show (54 : Nat) = (54 : UInt8).toNat from rfl, xor_byte]; rfl) ?_
        refine W.indexS E8 Try.underlying23 rfl (own_sl hO17) rfl (by omega) rfl ?_
        intro ad35 _ had35 _
        obtain rfl : ad35 = ⟨g17, i, none⟩ := by rw [had35 _ rfl, add_mk, Int.toNat_natCast, Nat.zero_add, Nat.mul_one]
        refine W.storeO rfl rfl rfl hO17 (by omega) (by kernel_rfl) ?_
        intro w9 hc9 hO9
        rw [← List.map_set, fill64_set hkl (by omega)] at hO9
        have hO18 := ownsRow_chg hO18 hc9 (fun k hk => by have h8 : g18 = k := Option.some.inj hk
                                                          omega)
        refine W.nil ?_
        refine At.thenCode ?_
        refine C.region ?_
        refine W.move rfl rfl ?_
        refine W.move rfl rfl ?_
        refine W.move rfl rfl ?_
        refine W.eqv (v' := byteV (kp.getD i 0)) (by first | rfl | (rw [hz]; rfl)) ?_
        refine W.xorU (M := 256) (n := 92) rfl rfl rfl rfl rfl ?_
        refine W.eqv (v' := byteV (kp.getD i 0 ^^^ 92)) (by rw [show (92 : Nat) = (92 : UInt8).toNat from rfl, xor_byte]; rfl) ?_
        refine W.indexS E8 Try.underlying23 rfl (own_sl hO18) rfl (by omega) rfl ?_
        intro ad40 _ had40 _
        obtain rfl : ad40 = ⟨g18, i, none⟩ := by rw [had40 _ rfl, add_mk, Int.toNat_natCast, Nat.zero_add, Nat.mul_one]
        refine W.storeO rfl rfl rfl hO18 (by omega) (by kernel_rfl) ?_
        intro w10 hc10 hO10
        rw [← List.map_set, fill64_set hkl (by omega)] at hO10
        have hO9 := ownsRow_chg hO9 hc10 (fun k hk => by have h8 : g17 = k := Option.some.inj hk
                                                         omega)
        refine W.nil ?_
        refine At.blockNormal ?_
        refine At.thenCode ?_
        refine C.region ?_
        refine W.move rfl rfl ?_
        first | refine W.addI rfl rfl (by omega) rfl ?_ | refine W.addW rfl rfl rfl ?_
        refine W.assign rfl rfl ?_
        refine W.nil ?_
        refine At.thenRound (i + 1) (Sub.cons (rfl) (Sub.cons (rfl) (Sub.cons (rfl) (Sub.cons (rfl) (Sub.cons (look_eq rfl (by rw [show (i : Int) + 1 = ((i + 1 : Nat) : Int) by omega])) (Sub.nil)))))) (show Ext w _ ∧ (i + 1) ≤ 64 ∧ Bk _ g2 (key.map byteV) ∧ Bs _ ap cp b ∧ World.ownsRow _ w.heap.size 5 1 (.slice (some ⟨g17, 0, none⟩) 64 64) 64 ((fill64 54 kp (i + 1)).map byteV) ∧ World.ownsRow _ w.heap.size 5 1 (.slice (some ⟨g18, 0, none⟩) 64 64) 64 ((fill64 92 kp (i + 1)).map byteV) from ?_) (show 64 - (i + 1) < 64 - i from ?_)
        · exact ⟨(hX1.news hc9 (fun k hk => Or.inr (by omega))).news hc10 (fun k hk => Or.inr (by omega)), by omega, (hB2.chg hc9 (by omega)).chg hc10 (by omega), Sl.chg (Sl.chg hY hc9 (fun ad e hne hk => by have := hpa ad e hne; omega)) hc10 (fun ad e hne hk => by have := hpa ad e hne; omega), hO9, hO10⟩
        · omega
    · obtain rfl : i = 64 := by omega
      rw [fill64_full hkl] at hO17 hO18
      have hO17 := ow_of hO17 (by omega)
      refine C.exit ?_
      refine At.thenExit ?_
      refine At.thenExit ?_
      refine At.blockSelf ?_
      refine At.thenCode ?_
      refine C.seq ?_
      refine C.region ?_
      refine W.move rfl rfl ?_
      refine W.move rfl rfl ?_
      refine W.appendB E8 Try.underlying23 rfl rfl hO17 hY (by omega) hX1.size rfl ?_
      intro v43 w43 ho43 hg43 _
      have hc43 := Chg.of_grown hg43
      have hX43 : Ext w w43 := hX1.news hc43 (fun k hk => Or.inr ((World.ownsRow.lt hO17 k hk.symm).1))
      have hO18 := ownsRow_chg hO18 hc43 (fun k hk he => by
        have h8 : g18 = k := Option.some.inj hk
        have h9 : k = g17 := Option.some.inj he
        omega)
      have hB2 := hB2.chg hc43 (fun he => by have h9 : g2 = g17 := Option.some.inj he; omega)
      have hY := Sl.chg hY hc43 (fun ad e hne he => by have h9 : ad.block = g17 := Option.some.inj he; have := hpa ad e hne; omega)
      obtain ⟨ao43, c43, rfl, hS43, _⟩ := ownsRow_form ho43
      refine W.call Try.call15 rfl (Sum_ok _ _ _ _ hS43 (by rw [List.length_append]; omega)) rfl ?_
      rintro v44 w44 ⟨rfl, hX44⟩
      obtain ⟨inn, hinn⟩ : ∃ inn, inn = shaV (maskB 54 kp ++ b) := ⟨_, rfl⟩
      have hil : inn.length = 32 := by rw [hinn]; exact shaV_length _
      rw [← hinn]
      refine W.alloc (z := .agg (List.replicate 32 (byteV 0)).toArray) (List.replicate 32 (byteV 0)) (by kernel_rfl) rfl rfl ?_
      intro g10 w45 hg10 hX45 hB10
      refine W.storeA (inn.map byteV) rfl rfl hB10 (by rw [List.length_map, hil]; rfl) (by rw [List.length_map, hil]; kernel_rfl) (bytes_oneCell _) ?_
      intro w46 hc46 hB10
      have hs43 := hX43.size
      have hs44 := hX44.size
      have hl4' := hB2.lt
      have hX46 : Ext w43 w46 := (hX44.ext hX45).news hc46 (fun k hk => Or.inr (by omega))
      have hB2 := hB2.ext hX46
      have hY := Sl.ext hY hX46
      have hO18 := ow_of (ownsRow_ext hO18 hX46) (by omega)
      have hfin : shaV (maskB 92 kp ++ inn) = macV key b := by rw [macV, hsk, ← hkp, hinn]
      have hs46 := hX46.size
      refine W.nil ?_
      refine At.thenCode ?_
      refine C.seq ?_
      refine C.regionAny 5 ((fun v w => v = .slice (some ⟨g2, 0, none⟩) 32 32) :: (fun v w => v = .slice ap b.length cp) :: (fun v w => v = keyV (macV key b)) :: (fun v w => v = .slice (some ⟨g18, 0, none⟩) 64 64) :: (fun v w => v = .slice (some ⟨g10, 0, none⟩) 32 32) :: []) [(1, .slice ap b.length cp), (2, .pointer (some ⟨g2, 0, none⟩)), (7, .slice (some ⟨g18, 0, none⟩) 64 64), (10, .pointer (some ⟨g10, 0, none⟩))] [] (Sub.cons (rfl) (Sub.cons (rfl) (Sub.cons (rfl) (Sub.cons (rfl) (Sub.nil))))) (Sub.nil) (Sub.cons (rfl) (Sub.cons (rfl) (Sub.cons (rfl) (Sub.cons (rfl) (Sub.nil))))) (by kernel_rfl) rfl rfl rfl (And.intro (fun _ _ _ h _ => h) (And.intro (fun _ _ _ h _ => h) (And.intro (fun _ _ _ h _ => h) (And.intro (fun _ _ _ h _ => h) (And.intro (fun _ _ _ h _ => h) (trivial)))))) ?_ ?_
      · refine And.intro ?_ ?_
        · intro L_ w47 hX_ hs_ hf_ hd_
          refine W.step [(2, _)] (Sub.cons (hs_ _ _ rfl) (Sub.refl _)) ?_
          refine W.sliceA X8 Try.underlying25 rfl rfl ?_
          refine W.nil ?_
          exact At.step (Ext.refl _) rfl
        refine And.intro ?_ ?_
        · intro L_ w47 hX_ hs_ hf_ hd_
          refine W.step [(1, _)] (Sub.cons (hs_ _ _ rfl) (Sub.refl _)) ?_
          refine W.move rfl rfl ?_
          refine W.nil ?_
          exact At.step (Ext.refl _) rfl
        refine And.intro ?_ ?_
        · intro L_ w47 hX_ hs_ hf_ hd_
          obtain ⟨v0, e0, r0⟩ := hd_ 0 rfl
          obtain rfl : v0 = .slice (some ⟨g2, 0, none⟩) 32 32 := r0
          obtain ⟨v1, e1, r1⟩ := hd_ 1 rfl
          obtain rfl : v1 = .slice ap b.length cp := r1
          refine W.step [(45, _), (46, _)] (Sub.cons e0 (Sub.cons e1 (Sub.refl _))) ?_
          have hS2 : Bs w47 (some ⟨g2, 0, none⟩) 32 key := by show Sl _ _ _ _ _ _; rw [hk]; exact (hB2.ext hX_).sl 1 (by rw [List.length_map, hk]) (by omega)
          have hmo := Mac.Of_ok (some ⟨g2, 0, none⟩) 32 key ap cp b w47 hS2 (Sl.ext hY hX_) (by omega) (by omega)
          rw [hk] at hmo
          refine W.call Try.call23 rfl hmo rfl ?_
          rintro v47 w48 ⟨rfl, hX47⟩
          refine W.nil ?_
          exact At.step hX47 rfl
        refine And.intro ?_ ?_
        · intro L_ w47 hX_ hs_ hf_ hd_
          refine W.step [(7, _)] (Sub.cons (hs_ _ _ rfl) (Sub.refl _)) ?_
          refine W.move rfl rfl ?_
          refine W.nil ?_
          exact At.step (Ext.refl _) rfl
        refine And.intro ?_ ?_
        · intro L_ w47 hX_ hs_ hf_ hd_
          refine W.step [(10, _)] (Sub.cons (hs_ _ _ rfl) (Sub.refl _)) ?_
          refine W.sliceA X8 Try.underlying25 rfl rfl ?_
          refine W.nil ?_
          exact At.step (Ext.refl _) rfl
        exact trivial
      · intro L_ w47 hX15 hs_ hv_
        obtain ⟨v2, e2, r2⟩ := hv_ 2 (by decide)
        obtain rfl : v2 = keyV (macV key b) := r2
        obtain ⟨v3, e3, r3⟩ := hv_ 3 (by decide)
        obtain rfl : v3 = .slice (some ⟨g18, 0, none⟩) 64 64 := r3
        obtain ⟨v4, e4, r4⟩ := hv_ 4 (by decide)
        obtain rfl : v4 = .slice (some ⟨g10, 0, none⟩) 32 32 := r4
        refine W.weaken (l' := [(47, _), (48, _), (49, _), (1, _), (2, _), (7, _), (10, _)]) (Sub.cons e2 (Sub.cons e3 (Sub.cons e4 (Sub.cons (hs_ _ _ rfl) (Sub.cons (hs_ _ _ rfl) (Sub.cons (hs_ _ _ rfl) (Sub.cons (hs_ _ _ rfl) (Sub.nil)))))))) ?_
        have hO18 := ownsRow_ext hO18 hX15
        have hS10 : Bs w47 (some ⟨g10, 0, none⟩) 32 inn := by show Sl _ _ _ _ _ _; rw [hil]; exact (hB10.ext hX15).sl 1 (by rw [List.length_map, hil]) (by omega)
        refine W.appendB (ys := inn) E8 Try.underlying23 rfl (look_eq rfl (by rw [hil])) hO18 hS10 (by omega) (by have := hX15.size; omega) rfl ?_
        intro v50 w50 ho50 hg50 _
        have hX50 : Ext w w50 := ((hX43.ext hX46).ext hX15).news (Chg.of_grown hg50) (fun k hk => Or.inr ((World.ownsRow.lt hO18 k hk.symm).1))
        obtain ⟨ao50, c50, rfl, hS50, _⟩ := ownsRow_form ho50
        refine W.call Try.call15 rfl (Sum_ok _ _ _ _ hS50 (by rw [List.length_append]; omega)) rfl ?_
        rintro v51 w51 ⟨rfl, hX51⟩
        rw [hfin]
        refine W.eqlKey (a := macV key b) (b := macV key b) Try.underlying25 Try.underlying5 (by kernel_rfl) rfl rfl (macV_length _ _) (macV_length _ _) (by kernel_rfl) rfl ?_
        refine W.eqv (bT (rfl)) ?_
        refine W.assign rfl rfl ?_
        refine W.nil ?_
        refine At.thenCode ?_
        refine C.ret ?_
        refine At.ret1 Try.results10 rfl ?_
        exact ⟨rfl, Ext.below (hX50.ext hX51)⟩
theorem MacKeys_walk (ao : Option Addr) (c : Nat) (key : List UInt8) (ap : Option Addr) (cp : Nat) (b : List UInt8) (z : Int) (w : World) (hS : Bs w ao c key) (hl : key.length ≤ 9223372036854775807) (hY : Bs w ap cp b) (hlb : b.length ≤ 9223372036854775807) (hz : -9223372036854775808 ≤ z ∧ z ≤ 9223372036854775807) :
    Ct Try.prog 9 #[.slice ao key.length c, .slice ap b.length cp, .int .i64 z] w (LawOk w) := by
  refine Ct.enter [(0, .slice ao key.length c), (1, .slice ap b.length cp), (2, .int .i64 z)] Try.func9 rfl rfl rfl rfl ?_
  refine C.seq ?_
  refine C.region ?_
  refine W.assign rfl rfl ?_
  refine W.nil ?_
  refine At.thenCode ?_
  refine C.seq ?_
  refine C.region ?_
  refine W.call Try.call22 rfl (alive_ok _) rfl ?_
  rintro v9 w9 ⟨rfl, hX9⟩
  have hS := hS.ext hX9
  have hY := hY.ext hX9
  refine W.assign rfl rfl ?_
  refine W.nil ?_
  refine At.thenCode ?_
  refine C.seq ?_
  refine C.seq ?_
  refine C.region ?_
  refine W.move rfl rfl ?_
  first | refine W.notD rfl rfl ?_ | refine W.notB rfl rfl ?_
  refine W.move rfl rfl ?_
  refine W.wants rfl rfl rfl rfl ?_
  refine W.move rfl rfl ?_
  refine W.wants rfl rfl rfl rfl ?_
  refine W.lenS rfl Try.underlying23 rfl ?_
  refine W.wants rfl rfl rfl rfl ?_
  refine W.gtrI rfl rfl rfl ?_
  refine W.pickF rfl rfl rfl ?_
  refine W.move rfl rfl ?_
  first | refine W.splitD (fun g17 => ?_) (fun g17 => ?_) | refine W.splitB (fun g17 => ?_) (fun g17 => ?_)
  · refine W.skips rfl rfl rfl rfl rfl rfl ?_
    refine W.skips rfl rfl rfl rfl rfl rfl ?_
    refine W.skips rfl rfl rfl rfl rfl rfl ?_
    refine W.pickT rfl rfl rfl ?_
    refine W.move rfl rfl ?_
    refine W.skips rfl rfl rfl rfl rfl rfl ?_
    refine W.skips rfl rfl rfl rfl rfl rfl ?_
    refine W.pickT rfl rfl rfl ?_
    refine W.move rfl rfl ?_
    refine W.skips rfl rfl rfl rfl rfl rfl ?_
    refine W.skips rfl rfl rfl rfl rfl rfl ?_
    refine W.pickT rfl rfl rfl ?_
    refine W.nil ?_
    refine At.thenCode ?_
    refine C.condT rfl ?_
    refine C.seq ?_
    refine C.region ?_
    refine W.move rfl rfl ?_
    refine W.assign rfl rfl ?_
    refine W.nil ?_
    refine At.thenCode ?_
    refine C.ret ?_
    refine At.thenRet ?_
    refine At.ret1 Try.results9 rfl ?_
    first | exact ⟨rfl, Ext.below (((hX9.ext hX36).ext hX6).ext hX41)⟩ | exact ⟨rfl, Ext.below (((hX9.ext hX51).ext hX53).ext hX56)⟩ | exact ⟨rfl, hX9.below⟩
  · refine W.wants rfl rfl rfl rfl ?_
    refine W.move rfl rfl ?_
    refine W.wants rfl rfl rfl rfl ?_
    refine W.lenS rfl Try.underlying23 rfl ?_
    refine W.wants rfl rfl rfl rfl ?_
    refine W.gtrI rfl rfl rfl ?_
    refine W.pickF rfl rfl rfl ?_
    refine W.move rfl rfl ?_
    first | refine W.splitD (fun g22 => ?_) (fun g22 => ?_) | refine W.splitB (fun g22 => ?_) (fun g22 => ?_)
    · refine W.skips rfl rfl rfl rfl rfl rfl ?_
      refine W.skips rfl rfl rfl rfl rfl rfl ?_
      refine W.pickT rfl rfl rfl ?_
      refine W.move rfl rfl ?_
      refine W.skips rfl rfl rfl rfl rfl rfl ?_
      refine W.skips rfl rfl rfl rfl rfl rfl ?_
      refine W.pickT rfl rfl rfl ?_
      refine W.nil ?_
      refine At.thenCode ?_
      refine C.condT rfl ?_
      refine C.seq ?_
      refine C.region ?_
      refine W.move rfl rfl ?_
      refine W.assign rfl rfl ?_
      refine W.nil ?_
      refine At.thenCode ?_
      refine C.ret ?_
      refine At.thenRet ?_
      refine At.ret1 Try.results9 rfl ?_
      first | exact ⟨rfl, Ext.below (((hX9.ext hX36).ext hX6).ext hX41)⟩ | exact ⟨rfl, Ext.below (((hX9.ext hX51).ext hX53).ext hX56)⟩ | exact ⟨rfl, hX9.below⟩
    · refine W.wants rfl rfl rfl rfl ?_
      refine W.move rfl rfl ?_
      refine W.wants rfl rfl rfl rfl ?_
      refine W.lssI rfl rfl rfl ?_
      refine W.pickF rfl rfl rfl ?_
      refine W.move rfl rfl ?_
      first | refine W.splitD (fun g26 => ?_) (fun g26 => ?_) | refine W.splitB (fun g26 => ?_) (fun g26 => ?_)
      · refine W.skips rfl rfl rfl rfl rfl rfl ?_
        refine W.skips rfl rfl rfl rfl rfl rfl ?_
        refine W.pickT rfl rfl rfl ?_
        refine W.nil ?_
        refine At.thenCode ?_
        refine C.condT rfl ?_
        refine C.seq ?_
        refine C.region ?_
        refine W.move rfl rfl ?_
        refine W.assign rfl rfl ?_
        refine W.nil ?_
        refine At.thenCode ?_
        refine C.ret ?_
        refine At.thenRet ?_
        refine At.ret1 Try.results9 rfl ?_
        first | exact ⟨rfl, Ext.below (((hX9.ext hX36).ext hX6).ext hX41)⟩ | exact ⟨rfl, Ext.below (((hX9.ext hX51).ext hX53).ext hX56)⟩ | exact ⟨rfl, hX9.below⟩
      · refine W.wants rfl rfl rfl rfl ?_
        refine W.move rfl rfl ?_
        refine W.wants rfl rfl rfl rfl ?_
        refine W.gtrI rfl rfl rfl ?_
        refine W.pickF rfl rfl rfl ?_
        refine W.nil ?_
        refine At.thenCode ?_
        first | refine C.condD rfl (fun c29 => ?_) (fun c29 => ?_) | refine C.cond rfl (fun c29 => ?_) (fun c29 => ?_)
        · refine C.seq ?_
          refine C.region ?_
          refine W.move rfl rfl ?_
          refine W.assign rfl rfl ?_
          refine W.nil ?_
          refine At.thenCode ?_
          refine C.ret ?_
          refine At.thenRet ?_
          refine At.ret1 Try.results9 rfl ?_
          first | exact ⟨rfl, Ext.below (((hX9.ext hX36).ext hX6).ext hX41)⟩ | exact ⟨rfl, Ext.below (((hX9.ext hX51).ext hX53).ext hX56)⟩ | exact ⟨rfl, hX9.below⟩
        · refine C.skip ?_
          refine At.thenCode ?_
          refine C.seq ?_
          refine C.seq ?_
          refine C.region ?_
          refine W.move rfl rfl ?_
          refine W.lenS rfl Try.underlying23 rfl ?_
          refine W.gtrI rfl rfl rfl ?_
          refine W.nil ?_
          refine At.thenCode ?_
          first | refine C.condD rfl (fun c33 => ?_) (fun c33 => ?_) | refine C.cond rfl (fun c33 => ?_) (fun c33 => ?_)
          · refine C.seq ?_
            refine C.region ?_
            refine W.move rfl rfl ?_
            refine W.call Try.call15 rfl (Sum_ok _ _ _ _ hS (by omega)) rfl ?_
            rintro v35 w35 ⟨rfl, hX35⟩
            refine W.alloc (z := .agg (List.replicate 32 (byteV 0)).toArray) (List.replicate 32 (byteV 0)) (by kernel_rfl) rfl rfl ?_
            intro g8 w8 hg8 hX8 hB8
            have hshl := shaV_length key
            refine W.storeA ((shaV key).map byteV) rfl rfl hB8 (by rw [List.length_map, hshl]; rfl) (by rw [List.length_map, hshl]; kernel_rfl) (bytes_oneCell _) ?_
            intro w36 hc36 hB8
            have hs35 := hX35.size
            have hX36 : Ext w9 w36 := (hX35.ext hX8).news hc36 (fun k hk => Or.inr (by omega))
            have hS := hS.ext hX36
            have hY := hY.ext hX36
            refine W.nil ?_
            refine At.thenCode ?_
            refine C.seq ?_
            refine C.regionAny 5 ((fun v w => v = .slice ao key.length c) :: (fun v w => v = .slice ap b.length cp) :: (fun v w => v = keyV (macV key b)) :: (fun v w => v = .slice (some ⟨g8, 0, none⟩) 32 32) :: (fun v w => v = .slice ap b.length cp) :: []) [(0, .slice ao key.length c), (1, .slice ap b.length cp), (8, .pointer (some ⟨g8, 0, none⟩))] [] (Sub.cons (rfl) (Sub.cons (rfl) (Sub.cons (rfl) (Sub.nil)))) (Sub.nil) (Sub.cons (rfl) (Sub.cons (rfl) (Sub.cons (rfl) (Sub.nil)))) (by kernel_rfl) rfl rfl rfl (And.intro (fun _ _ _ h _ => h) (And.intro (fun _ _ _ h _ => h) (And.intro (fun _ _ _ h _ => h) (And.intro (fun _ _ _ h _ => h) (And.intro (fun _ _ _ h _ => h) (trivial)))))) ?_ ?_
            · refine And.intro ?_ ?_
              · intro L_ w37 hX_ hs_ hf_ hd_
                refine W.step [(0, _)] (Sub.cons (hs_ _ _ rfl) (Sub.refl _)) ?_
                refine W.move rfl rfl ?_
                refine W.nil ?_
                exact At.step (Ext.refl _) rfl
              refine And.intro ?_ ?_
              · intro L_ w37 hX_ hs_ hf_ hd_
                refine W.step [(1, _)] (Sub.cons (hs_ _ _ rfl) (Sub.refl _)) ?_
                refine W.move rfl rfl ?_
                refine W.nil ?_
                exact At.step (Ext.refl _) rfl
              refine And.intro ?_ ?_
              · intro L_ w37 hX_ hs_ hf_ hd_
                obtain ⟨v0, e0, r0⟩ := hd_ 0 rfl
                obtain rfl : v0 = .slice ao key.length c := r0
                obtain ⟨v1, e1, r1⟩ := hd_ 1 rfl
                obtain rfl : v1 = .slice ap b.length cp := r1
                refine W.step [(36, _), (37, _)] (Sub.cons e0 (Sub.cons e1 (Sub.refl _))) ?_
                refine W.call Try.call23 rfl (Mac.Of_ok _ _ _ _ _ _ _ (Sl.ext hS hX_) (Sl.ext hY hX_) (by omega) (by omega)) rfl ?_
                rintro v38 w38 ⟨rfl, hX38⟩
                refine W.nil ?_
                exact At.step hX38 rfl
              refine And.intro ?_ ?_
              · intro L_ w37 hX_ hs_ hf_ hd_
                refine W.step [(8, _)] (Sub.cons (hs_ _ _ rfl) (Sub.refl _)) ?_
                refine W.sliceA X8 Try.underlying25 rfl rfl ?_
                refine W.nil ?_
                exact At.step (Ext.refl _) rfl
              refine And.intro ?_ ?_
              · intro L_ w37 hX_ hs_ hf_ hd_
                refine W.step [(1, _)] (Sub.cons (hs_ _ _ rfl) (Sub.refl _)) ?_
                refine W.move rfl rfl ?_
                refine W.nil ?_
                exact At.step (Ext.refl _) rfl
              exact trivial
            · intro L_ w37 hX6 hs_ hv_
              obtain ⟨v2, e2, r2⟩ := hv_ 2 (by decide)
              obtain rfl : v2 = keyV (macV key b) := r2
              obtain ⟨v3, e3, r3⟩ := hv_ 3 (by decide)
              obtain rfl : v3 = .slice (some ⟨g8, 0, none⟩) 32 32 := r3
              obtain ⟨v4, e4, r4⟩ := hv_ 4 (by decide)
              obtain rfl : v4 = .slice ap b.length cp := r4
              refine W.weaken (l' := [(38, _), (39, _), (40, _), (0, _), (1, _), (8, _)]) (Sub.cons e2 (Sub.cons e3 (Sub.cons e4 (Sub.cons (hs_ _ _ rfl) (Sub.cons (hs_ _ _ rfl) (Sub.cons (hs_ _ _ rfl) (Sub.nil))))))) ?_
              have hS8 : Bs w37 (some ⟨g8, 0, none⟩) 32 (shaV key) := by show Sl _ _ _ _ _ _; rw [hshl]; exact (hB8.ext hX6).sl 1 (by rw [List.length_map, hshl]) (by omega)
              have hmo := Mac.Of_ok (some ⟨g8, 0, none⟩) 32 (shaV key) ap cp b w37 hS8 (Sl.ext hY hX6) (by omega) (by omega)
              rw [hshl] at hmo
              refine W.call Try.call23 rfl hmo rfl ?_
              rintro v41 w41 ⟨rfl, hX41⟩
              rw [macV_sum (by omega) b]
              refine W.eqlKey (a := macV key b) (b := macV key b) Try.underlying25 Try.underlying5 (by kernel_rfl) rfl rfl (macV_length _ _) (macV_length _ _) (by kernel_rfl) rfl ?_
              refine W.eqv (bT (rfl)) ?_
              refine W.assign rfl rfl ?_
              refine W.nil ?_
              refine At.thenCode ?_
              refine C.ret ?_
              refine At.thenRet ?_
              refine At.ret1 Try.results9 rfl ?_
              first | exact ⟨rfl, Ext.below (((hX9.ext hX36).ext hX6).ext hX41)⟩ | exact ⟨rfl, Ext.below (((hX9.ext hX51).ext hX53).ext hX56)⟩ | exact ⟨rfl, hX9.below⟩
          · refine C.skip ?_
            refine At.thenCode ?_
            refine C.seq ?_
            refine C.seq ?_
            refine C.region ?_
            refine W.move rfl rfl ?_
            refine W.lenS rfl Try.underlying23 rfl ?_
            refine W.move rfl rfl ?_
            first | refine W.addI rfl rfl (by omega) rfl ?_ | refine W.addW rfl rfl rfl ?_
            refine W.gtrI rfl rfl rfl ?_
            refine W.nil ?_
            refine At.thenCode ?_
            first | refine C.condD rfl (fun c47 => ?_) (fun c47 => ?_) | refine C.cond rfl (fun c47 => ?_) (fun c47 => ?_)
            · refine C.seq ?_
              refine C.region ?_
              refine W.assign rfl rfl ?_
              refine W.nil ?_
              refine At.thenCode ?_
              refine C.ret ?_
              refine At.thenRet ?_
              refine At.ret1 Try.results9 rfl ?_
              first | exact ⟨rfl, Ext.below (((hX9.ext hX36).ext hX6).ext hX41)⟩ | exact ⟨rfl, Ext.below (((hX9.ext hX51).ext hX53).ext hX56)⟩ | exact ⟨rfl, hX9.below⟩
            · refine C.skip ?_
              refine At.thenCode ?_
              refine C.seq ?_
              refine C.region ?_
              refine W.move rfl rfl ?_
              refine W.appendB E8 Try.underlying23 rfl rfl (Ow.nil _ _ 5) hS (by simp; omega) (Nat.le_refl _) rfl ?_
              rw [List.nil_append]
              intro v49 w49 ho49 hg49 _
              have hX49 : Ext w9 w49 := (Chg.of_grown hg49).mono fun k hk => by cases hk
              refine W.move rfl rfl ?_
              refine W.appendN (m := z.toNat) E8 Try.underlying23 Try.underlying3 rfl rfl (by omega) ho49 (by omega) hX49.size rfl ?_
              intro v51 w51 ho51 hg51
              have hX51 : Ext w9 w51 := hX49.news (Chg.of_grown hg51) (fun k hk => Or.inr ((World.ownsRow.lt ho49 k hk.symm).1))
              obtain ⟨ao51, c51, rfl, hS51, _⟩ := ownsRow_form ho51
              refine W.move rfl rfl ?_
              refine W.call Try.call23 rfl (Mac.Of_ok _ _ _ _ _ _ _ hS51 (hY.ext hX51) (by rw [List.length_append, List.length_replicate]; omega) (by omega)) rfl ?_
              rintro v53 w53 ⟨rfl, hX53⟩
              rw [macV_zeros (by omega) b]
              refine W.move rfl rfl ?_
              refine W.move rfl rfl ?_
              refine W.call Try.call23 rfl (Mac.Of_ok _ _ _ _ _ _ _ ((hS.ext hX51).ext hX53) ((hY.ext hX51).ext hX53) (by omega) (by omega)) rfl ?_
              rintro v56 w56 ⟨rfl, hX56⟩
              refine W.eqlKey (a := macV key b) (b := macV key b) Try.underlying25 Try.underlying5 (by kernel_rfl) rfl rfl (macV_length _ _) (macV_length _ _) (by kernel_rfl) rfl ?_
              refine W.eqv (bT (rfl)) ?_
              refine W.assign rfl rfl ?_
              refine W.nil ?_
              refine At.thenCode ?_
              refine C.ret ?_
              refine At.ret1 Try.results9 rfl ?_
              first | exact ⟨rfl, Ext.below (((hX9.ext hX36).ext hX6).ext hX41)⟩ | exact ⟨rfl, Ext.below (((hX9.ext hX51).ext hX53).ext hX56)⟩ | exact ⟨rfl, hX9.below⟩
end Go.Proofs.Ytmnndbebnojlgaa.Law3
