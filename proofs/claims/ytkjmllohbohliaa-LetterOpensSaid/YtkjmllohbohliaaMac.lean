/- Package mac and the reference's Mac. -/
import Derived.Test.YtkjmllohbohliaaRSha
import Derived.Test.YtkjmllohbohliaaKx
namespace Go.Proofs.Ytkjmllohbohliaa.Mac
open Go Go.RowKit Go.Proofs.Ytkjmllohbohliaa.KW Go.Proofs.Ytkjmllohbohliaa.Words Go.Proofs.Ytkjmllohbohliaa.Sha Go.Proofs.Ytkjmllohbohliaa.RSha
set_option linter.unusedVariables false
set_option linter.unusedSimpArgs false
set_option maxRecDepth 100000

def pad64 (k : List UInt8) : List UInt8 := k ++ List.replicate (64 - k.length) 0
def shortK (k : List UInt8) : List UInt8 := if 64 < k.length then shaV k else k
theorem shortK_le (k : List UInt8) : (shortK k).length ≤ 64 := by
  unfold shortK; split
  · rw [shaV_length]; decide
  · omega
theorem pad64_length {k : List UInt8} (h : k.length ≤ 64) : (pad64 k).length = 64 := by simp [pad64]; omega
def maskB (m : UInt8) (k : List UInt8) : List UInt8 := k.map (· ^^^ m)
theorem maskB_length (m : UInt8) (k : List UInt8) : (maskB m k).length = k.length := by simp [maskB]
def macV (key b : List UInt8) : List UInt8 :=
  shaV (maskB 92 (pad64 (shortK key)) ++ shaV (maskB 54 (pad64 (shortK key)) ++ b))
theorem macV_length (key b : List UInt8) : (macV key b).length = 32 := shaV_length _
theorem xor_byte (a m : UInt8) : xorM 256 a.toNat m.toNat = (a ^^^ m).toNat := by
  rw [UInt8.toNat_xor, xorM]
  exact Nat.mod_eq_of_lt (Nat.xor_lt_two_pow (n := 8) (UInt8.toNat_lt a) (UInt8.toNat_lt m))
theorem splice_pad {xs : List UInt8} (h : xs.length ≤ 64) : KW.splice (List.replicate 64 (byteV 0)) 0 (xs.map byteV) = (pad64 xs).map byteV := by
  apply List.ext_getElem?
  intro i
  rw [splice_get _ _ _ _ (by simp; omega), pad64, List.map_append]
  by_cases hi : i < xs.length
  · rw [if_pos (by simp; omega), List.getElem?_append_left (by simpa using hi), Nat.sub_zero]
  · rw [if_neg (by simp; omega), List.getElem?_append_right (by simp; omega), List.length_map, List.map_replicate, List.getElem?_replicate, List.getElem?_replicate]
    by_cases h2 : i < 64
    · rw [if_pos h2, if_pos (by omega)]
    · rw [if_neg h2, if_neg (by omega)]

theorem masked_ok {k : List UInt8} (hk : k.length = 64) (m : UInt8) (w : World) :
    Ct Try.prog 84 #[.agg (k.map byteV).toArray, .int .u8 ((m.toNat : Nat) : Int)] w (fun v w' => Ow w' w.heap.size 5 v (maskB m k) ∧ Ext w w') := by
  refine Ct.enter [(0, .agg (k.map byteV).toArray), (1, .int .u8 ((m.toNat : Nat) : Int))] Try.func84 rfl rfl rfl rfl ?_
  refine C.seq ?_
  refine C.region ?_
  refine W.box (k.map byteV) rfl rfl rfl ?_
  intro g2 w2 hg2 hX2 hB2
  refine W.assign rfl rfl ?_
  refine W.nil ?_
  refine At.thenCode ?_
  refine C.seq ?_
  refine C.region ?_
  refine W.assign rfl rfl ?_
  refine W.nil ?_
  refine At.thenCode ?_
  refine C.seq ?_
  refine C.seq ?_
  refine C.region ?_
  refine W.loadA rfl (hB2.cells (o := 0)) Try.underlying107 rfl (by rw [List.drop_zero, List.length_map, hk]; kernel_rfl) rfl ?_
  refine W.move rfl rfl ?_
  refine W.nil ?_
  refine At.thenCode ?_
  refine C.block ?_
  refine C.loop (X := Nat × Value) (fun x_ => [(1, .int .u8 ((m.toNat : Nat) : Int)), (5, x_.2), (8, .agg (k.map byteV).toArray), (9, .int .i64 (x_.1 : Int))]) (fun x_ w1 => Ext w w1 ∧ x_.1 ≤ 64 ∧ Ow w1 w.heap.size 5 x_.2 (maskB m (k.take x_.1))) (fun x_ => 64 - x_.1) (0, .slice none 0 0) (Sub.cons (rfl) (Sub.cons (rfl) (Sub.cons (rfl) (Sub.cons (rfl) (Sub.nil))))) ?start1 ?_
  case start1 =>
    show Ext w _ ∧ (0) ≤ 64 ∧ Ow _ w.heap.size 5 (.slice none 0 0) (maskB m (k.take (0)))
    exact ⟨hX2, by omega, Ow.nil _ _ _⟩
  rintro ⟨i, v⟩ w1 hI_
  replace hI_ : Ext w w1 ∧ i ≤ 64 ∧ Ow w1 w.heap.size 5 v (maskB m (k.take i)) := hI_
  obtain ⟨hX1, hi, hO1⟩ := hI_
  refine C.weaken (l' := [(1, .int .u8 ((m.toNat : Nat) : Int)), (5, v), (8, .agg (k.map byteV).toArray), (9, .int .i64 (i : Int))]) (Sub.cons (rfl) (Sub.cons (rfl) (Sub.cons (rfl) (Sub.cons (rfl) (Sub.nil))))) ?_
  refine C.seq ?_
  refine C.region ?_
  refine W.lssI rfl rfl rfl ?_
  refine W.nil ?_
  refine At.thenCode ?_
  refine C.seq ?_
  first | refine C.condD rfl (fun c10 => ?_) (fun c10 => ?_) | refine C.cond rfl (fun c10 => ?_) (fun c10 => ?_)
  · have hlt : i < k.length := by omega
    obtain ⟨b, hb⟩ : ∃ b, b = k[i]'hlt := ⟨_, rfl⟩
    refine C.skip ?_
    refine At.thenCode ?_
    refine C.seq ?_
    refine C.block ?_
    refine C.seq ?_
    refine C.region ?_
    refine W.indexV (v := byteV b) i X8 Try.underlying107 Try.underlying5 rfl rfl rfl rfl (by omega) (by rw [hb]; exact get_byte hlt) rfl ?_
    refine W.assign rfl rfl ?_
    refine W.nil ?_
    refine At.thenCode ?_
    refine C.region ?_
    refine W.move rfl rfl ?_
    refine W.move rfl rfl ?_
    refine W.move rfl rfl ?_
    refine W.xorU (M := 256) rfl rfl rfl rfl rfl ?_
    rw [xor_byte]
    refine W.litB [b ^^^ m] E8 Try.underlying24 rfl rfl rfl rfl rfl ?_
    intro g16 w16 hg16 hX16 _ hb16
    have ho16 := ownsRow_ext hO1 hX16
    have hml := maskB_length m (k.take i)
    rw [List.length_take] at hml
    refine W.appendB E8 Try.underlying24 rfl rfl ho16 hb16 (by rw [List.length_singleton]; omega) (by have := hX1.size; have := hX16.size; omega) rfl ?_
    intro v17 w17 ho17 hg17 _
    have hX17 : Ext w w17 := (hX1.ext hX16).news (Chg.of_grown hg17) (fun k hk => Or.inr ((World.ownsRow.lt ho16 k hk.symm).1))
    refine W.assign rfl rfl ?_
    refine W.nil ?_
    refine At.blockNormal ?_
    refine At.thenCode ?_
    refine C.region ?_
    first | refine W.addI rfl rfl (by omega) rfl ?_ | refine W.addW rfl rfl rfl ?_
    refine W.move rfl rfl ?_
    refine W.nil ?_
    refine At.thenRound (i + 1, v17) (Sub.cons (rfl) (Sub.cons (rfl) (Sub.cons (rfl) (Sub.cons (look_eq rfl (by rw [show (i : Int) + 1 = ((i + 1 : Nat) : Int) by omega])) (Sub.nil))))) (show Ext w _ ∧ (i + 1) ≤ 64 ∧ Ow _ w.heap.size 5 (v17) (maskB m (k.take (i + 1))) from ?_) (show 64 - (i + 1) < 64 - i from ?_)
    · refine ⟨hX17, by omega, ?_⟩
      have e : maskB m (k.take (i + 1)) = maskB m (k.take i) ++ [b ^^^ m] := by
        rw [List.take_succ_eq_append_getElem hlt, hb]; unfold maskB; rw [List.map_append]; rfl
      rw [e]
      exact ho17
    · omega
  · refine C.exit ?_
    refine At.thenExit ?_
    refine At.thenExit ?_
    refine At.blockSelf ?_
    refine At.thenCode ?_
    refine C.seq ?_
    refine C.region ?_
    refine W.move rfl rfl ?_
    refine W.assign rfl rfl ?_
    refine W.nil ?_
    refine At.thenCode ?_
    refine C.ret ?_
    refine At.ret1 Try.results84 rfl ?_
    obtain rfl : i = 64 := by omega
    rw [List.take_of_length_le (by omega)] at hO1
    exact ⟨hO1, hX1⟩
theorem Of_ok (ao : Option Addr) (c : Nat) (key : List UInt8) (ap : Option Addr) (cp : Nat) (b : List UInt8) (w : World) (hS : Bs w ao c key) (hY : Bs w ap cp b) (hl : key.length ≤ 900000) (hlb : b.length ≤ 900000) :
    Ct Try.prog 61 #[.slice ao key.length c, .slice ap b.length cp] w (fun v w' => v = keyV (macV key b) ∧ Ext w w') := by
  refine Ct.enter [(0, .slice ao key.length c), (1, .slice ap b.length cp)] Try.func61 rfl rfl rfl rfl ?_
  obtain ⟨kp, hkp⟩ : ∃ kp, kp = pad64 (shortK key) := ⟨_, rfl⟩
  have hkl : kp.length = 64 := by rw [hkp]; exact pad64_length (shortK_le key)
  have hY0 := hY
  have hm1 := maskB_length 54 kp
  have hm2 := maskB_length 92 kp
  refine C.seq ?_
  refine C.region ?_
  refine W.alloc (z := .agg (List.replicate 32 (byteV 0)).toArray) (List.replicate 32 (byteV 0)) (by kernel_rfl) rfl rfl ?_
  intro g4 w4 hg4 hX4 hB4
  have hl4 := hB4.lt
  refine W.nil ?_
  refine At.thenCode ?_
  refine C.seq ?_
  refine C.region ?_
  refine W.alloc (z := .agg (List.replicate 64 (byteV 0)).toArray) (List.replicate 64 (byteV 0)) (by kernel_rfl) rfl rfl ?_
  intro g5 w5 hg5 hX5 hB5
  have hl5 := hB5.lt
  have hs4 := hX4.size
  have hs5 := hX5.size
  have hn45 : g4 ≠ g5 := by omega
  have hb4 : w.heap.size ≤ g4 := by omega
  have hb5 : w.heap.size ≤ g5 := by omega
  have hB4 := hB4.ext hX5
  have hX5' := hX4.ext hX5
  have hS := hS.ext hX5'
  have hY := hY.ext hX5'
  refine W.nil ?_
  refine At.thenCode ?_
  refine C.seq ?_
  refine C.seq ?_
  refine C.region ?_
  refine W.move rfl rfl ?_
  refine W.lenS rfl Try.underlying24 rfl ?_
  refine W.gtrI rfl rfl rfl ?_
  refine W.nil ?_
  refine At.thenCode ?_
  first | refine C.condD rfl (fun c10 => ?_) (fun c10 => ?_) | refine C.cond rfl (fun c10 => ?_) (fun c10 => ?_)
  · refine C.seq ?_
    refine C.region ?_
    refine W.move rfl rfl ?_
    have hsk : shortK key = shaV key := by unfold shortK; rw [if_pos (by omega)]
    refine W.call Try.call63 rfl (Sum_ok _ _ _ _ hS (by omega)) rfl ?_
    rintro v12 w12 ⟨rfl, hX12⟩
    refine W.alloc (z := .agg (List.replicate 32 (byteV 0)).toArray) (List.replicate 32 (byteV 0)) (by kernel_rfl) rfl rfl ?_
    intro g6 w6 hg6 hX6 hB6
    have hshl := shaV_length key
    refine W.storeA ((shaV key).map byteV) rfl rfl hB6 (by rw [List.length_map, hshl]; rfl) (by rw [List.length_map, hshl]; kernel_rfl) (bytes_oneCell _) ?_
    intro w7 hc7 hB6
    have hs12 := hX12.size
    have hn6 : g4 ≠ g6 ∧ g5 ≠ g6 ∧ w5.heap.size ≤ g6 := by omega
    have hX7 : Ext w5 w7 := (hX12.ext hX6).news hc7 (fun k hk => Or.inr (by omega))
    refine W.nil ?_
    refine At.thenCode ?_
    refine C.regionAny 2 ((fun v w => v = .slice (some ⟨g5, 0, none⟩) 64 64) :: (fun v w => v = .slice (some ⟨g6, 0, none⟩) 32 32) :: []) [(0, .slice ao key.length c), (1, .slice ap b.length cp), (4, .pointer (some ⟨g4, 0, none⟩)), (5, .pointer (some ⟨g5, 0, none⟩)), (6, .pointer (some ⟨g6, 0, none⟩))] [] (Sub.cons (rfl) (Sub.cons (rfl) (Sub.cons (rfl) (Sub.cons (rfl) (Sub.cons (rfl) (Sub.nil)))))) (Sub.nil) (Sub.cons (rfl) (Sub.cons (rfl) (Sub.cons (rfl) (Sub.cons (rfl) (Sub.cons (rfl) (Sub.nil)))))) (by kernel_rfl) rfl rfl rfl (And.intro (fun _ _ _ h _ => h) (And.intro (fun _ _ _ h _ => h) (trivial))) ?_ ?_
    · refine And.intro ?_ ?_
      · intro L_ w8 hX_ hs_ hf_ hd_
        refine W.step [(5, _)] (Sub.cons (hs_ _ _ rfl) (Sub.refl _)) ?_
        refine W.sliceA X8 Try.underlying107 rfl rfl ?_
        refine W.nil ?_
        exact At.step (Ext.refl _) rfl
      refine And.intro ?_ ?_
      · intro L_ w8 hX_ hs_ hf_ hd_
        refine W.step [(6, _)] (Sub.cons (hs_ _ _ rfl) (Sub.refl _)) ?_
        refine W.sliceA X8 Try.underlying23 rfl rfl ?_
        refine W.nil ?_
        exact At.step (Ext.refl _) rfl
      exact trivial
    · intro L_ w8 hX4 hs_ hv_
      obtain ⟨v0, e0, r0⟩ := hv_ 0 (by decide)
      obtain rfl : (.slice (some ⟨g5, 0, none⟩) 64 64 : Value) = v0 := Eq.symm r0
      obtain ⟨v1, e1, r1⟩ := hv_ 1 (by decide)
      obtain rfl : (.slice (some ⟨g6, 0, none⟩) 32 32 : Value) = v1 := Eq.symm r1
      refine W.weaken (l' := [(13, _), (14, _), (0, _), (1, _), (4, _), (5, _), (6, _)]) (Sub.cons (e0 _ rfl) (Sub.cons (e1 _ rfl) (Sub.cons (hs_ _ _ rfl) (Sub.cons (hs_ _ _ rfl) (Sub.cons (hs_ _ _ rfl) (Sub.cons (hs_ _ _ rfl) (Sub.cons (hs_ _ _ rfl) (Sub.nil)))))))) ?_
      have hB6 := hB6.ext hX4
      have hS6 : Sl w8 (some ⟨g6, 0, none⟩) 32 32 1 ((shaV key).map byteV) := hB6.sl 1 (by rw [List.length_map, hshl]) (by omega)
      refine W.copyB (k := 32) Try.underlying24 (by kernel_rfl) rfl rfl ((hB5.ext hX7).ext hX4) hS6 (bytes_oneCell _) rfl (by simp) rfl ?_
      intro w15 hc15 hB15
      rw [List.take_of_length_le (by rw [List.length_map, hshl]; omega), splice_pad (by omega), ← hsk, ← hkp] at hB15
      have hX15 : Ext w w15 := ((hX5'.ext hX7).ext hX4).news hc15 (fun k hk => Or.inr (by omega))
      have hB4' := ((hB4.ext hX7).ext hX4).chg hc15 (by omega)
      have hY' := (((hY.ext hX7).ext hX4).chg hc15 (fun ad e hne hk => by have := hY0.blk e hne; omega) : Bs w15 ap cp b)
      refine W.nil ?_
      refine At.thenCode ?_
      refine C.seq ?_
      refine C.region ?_
      refine W.loadA rfl (hB15.cells (o := 0)) Try.underlying107 rfl (by rw [List.drop_zero, List.length_map, hkl]; kernel_rfl) rfl ?_
      refine W.call Try.call84 rfl (masked_ok hkl 54 _) rfl ?_
      rintro v20 w20 ⟨hO20, hX20⟩
      refine W.move rfl rfl ?_
      refine W.appendB E8 Try.underlying24 rfl rfl hO20 (hY'.ext hX20) (by omega) hX20.size rfl ?_
      intro v22 w22 ho22 hg22 _
      have hX22 : Ext w15 w22 := hX20.news (Chg.of_grown hg22) (fun k hk => Or.inr ((World.ownsRow.lt hO20 k hk.symm).1))
      obtain ⟨ao22, c22, rfl, hS22, _⟩ := ownsRow_form ho22
      refine W.call Try.call63 rfl (Sum_ok _ _ _ _ hS22 (by rw [List.length_append]; omega)) rfl ?_
      rintro v23 w23 ⟨rfl, hX23⟩
      obtain ⟨inn, hinn⟩ : ∃ inn, inn = shaV (maskB 54 kp ++ b) := ⟨_, rfl⟩
      have hil : inn.length = 32 := by rw [hinn]; exact shaV_length _
      rw [← hinn]
      refine W.alloc (z := .agg (List.replicate 32 (byteV 0)).toArray) (List.replicate 32 (byteV 0)) (by kernel_rfl) rfl rfl ?_
      intro g7 w24 hg7 hX24 hB7
      refine W.storeA (inn.map byteV) rfl rfl hB7 (by rw [List.length_map, hil]; rfl) (by rw [List.length_map, hil]; kernel_rfl) (bytes_oneCell _) ?_
      intro w25 hc25 hB7
      have hsz := hB4'.lt
      have hsz5 := hB15.lt
      have hs22 := hX22.size
      have hs23 := hX23.size
      have hs15 := hX15.size
      have hn7 : g4 ≠ g7 ∧ g5 ≠ g7 ∧ w15.heap.size ≤ g7 := by omega
      have hX25 : Ext w15 w25 := ((hX22.ext hX23).ext hX24).news hc25 (fun k hk => Or.inr (by omega))
      refine W.nil ?_
      refine At.thenCode ?_
      refine C.seq ?_
      refine C.regionAny 3 ((fun v w => v = .agg (kp.map byteV).toArray) :: (fun v w => ∃ b, w25.heap.size ≤ b ∧ Ow w b 5 v (maskB 92 kp) ∧ b ≤ w.heap.size) :: (fun v w => v = .slice (some ⟨g7, 0, none⟩) 32 32) :: []) [(4, .pointer (some ⟨g4, 0, none⟩)), (5, .pointer (some ⟨g5, 0, none⟩)), (7, .pointer (some ⟨g7, 0, none⟩))] [] (Sub.cons (rfl) (Sub.cons (rfl) (Sub.cons (rfl) (Sub.nil)))) (Sub.nil) (Sub.cons (rfl) (Sub.cons (rfl) (Sub.cons (rfl) (Sub.nil)))) (by kernel_rfl) rfl rfl rfl (And.intro (fun _ _ _ h _ => h) (And.intro (fun _ _ _ ⟨b, hb, h, hs⟩ g => ⟨b, hb, ownsRow_ext h g, Nat.le_trans hs g.size⟩) (And.intro (fun _ _ _ h _ => h) (trivial)))) ?_ ?_
      · refine And.intro ?_ ?_
        · intro L_ w26 hX_ hs_ hf_ hd_
          refine W.step [(5, _)] (Sub.cons (hs_ _ _ rfl) (Sub.refl _)) ?_
          refine W.loadA rfl (((hB15.ext hX25).ext hX_).cells (o := 0)) Try.underlying107 rfl (by rw [List.drop_zero, List.length_map, hkl]; kernel_rfl) rfl ?_
          refine W.nil ?_
          exact At.step (Ext.refl _) rfl
        refine And.intro ?_ ?_
        · intro L_ w26 hX_ hs_ hf_ hd_
          obtain ⟨v0, e0, r0⟩ := hd_ 0 rfl
          obtain rfl : (.agg (kp.map byteV).toArray : Value) = v0 := Eq.symm r0
          refine W.step [(24, _)] (Sub.cons (e0 _ rfl) (Sub.refl _)) ?_
          refine W.call Try.call84 rfl (masked_ok hkl 92 _) rfl ?_
          rintro v27 w27 ⟨hO27, hX27⟩
          refine W.nil ?_
          exact At.step hX27 ⟨_, hX_.size, hO27, hX27.size⟩
        refine And.intro ?_ ?_
        · intro L_ w26 hX_ hs_ hf_ hd_
          refine W.step [(7, _)] (Sub.cons (hs_ _ _ rfl) (Sub.refl _)) ?_
          refine W.sliceA X8 Try.underlying23 rfl rfl ?_
          refine W.nil ?_
          exact At.step (Ext.refl _) rfl
        exact trivial
      · intro L_ w26 hX7 hs_ hv_
        obtain ⟨v1, e1, r1⟩ := hv_ 1 (by decide)
        obtain ⟨b1, hb1, hO1, hs1⟩ := r1
        obtain ⟨v2, e2, r2⟩ := hv_ 2 (by decide)
        obtain rfl : (.slice (some ⟨g7, 0, none⟩) 32 32 : Value) = v2 := Eq.symm r2
        refine W.weaken (l' := [(25, _), (26, _), (4, _), (5, _), (7, _)]) (Sub.cons (e1 _ rfl) (Sub.cons (e2 _ rfl) (Sub.cons (hs_ _ _ rfl) (Sub.cons (hs_ _ _ rfl) (Sub.cons (hs_ _ _ rfl) (Sub.nil)))))) ?_
        have hS7 : Sl w26 (some ⟨g7, 0, none⟩) 32 32 1 (inn.map byteV) := (hB7.ext hX7).sl 1 (by rw [List.length_map, hil]) (by omega)
        have hS7' : Bs w26 (some ⟨g7, 0, none⟩) 32 inn := by show Sl _ _ _ _ _ _; rw [hil]; exact hS7
        refine W.appendB (ys := inn) E8 Try.underlying24 rfl (look_eq rfl (by rw [hil])) hO1 hS7' (by omega) hs1 rfl ?_
        intro v28 w28 ho28 hg28 _
        have hX28 : Ext w25 w28 := hX7.news (Chg.of_grown hg28) (fun k hk => Or.inr (by have := (World.ownsRow.lt hO1 k hk.symm).1; omega))
        obtain ⟨ao28, c28, rfl, hS28, _⟩ := ownsRow_form ho28
        refine W.call Try.call63 rfl (Sum_ok _ _ _ _ hS28 (by rw [List.length_append]; omega)) rfl ?_
        rintro v29 w29 ⟨rfl, hX29⟩
        have hfin : shaV (maskB 92 kp ++ inn) = macV key b := by rw [macV, ← hkp, hinn]
        rw [hfin]
        have hml := macV_length key b
        refine W.storeA ((macV key b).map byteV) rfl rfl (((hB4'.ext hX25).ext hX28).ext hX29) (by rw [List.length_map, hml]; rfl) (by rw [List.length_map, hml]; kernel_rfl) (bytes_oneCell _) ?_
        intro wz hcz hBz
        refine W.nil ?_
        refine At.thenCode ?_
        refine C.ret ?_
        -- RESULT IN A CELL
        refine At.retC Try.results61 rfl (hBz.cells (o := 0)) Try.underlying23 rfl (by rw [List.drop_zero, List.length_map, hml]; kernel_rfl) ⟨rfl, ?_⟩
        exact (((hX15.ext hX25).ext hX28).ext hX29).news hcz (fun k hk => Or.inr (by omega))
  · refine C.region ?_
    refine W.sliceA X8 Try.underlying107 rfl rfl ?_
    refine W.move rfl rfl ?_
    have hsk : shortK key = key := by unfold shortK; rw [if_neg (by omega)]
    refine W.copyB (k := key.length) Try.underlying24 (by kernel_rfl) rfl rfl hB5 hS (bytes_oneCell _) (Nat.min_eq_left (by omega)).symm (by simp; omega) rfl ?_
    intro w15 hc15 hB15
    rw [List.take_of_length_le (by rw [List.length_map]; omega), splice_pad (by omega), ← hsk, ← hkp] at hB15
    have hX15 : Ext w w15 := hX5'.news hc15 (fun k hk => Or.inr (by omega))
    have hB4' := hB4.chg hc15 (by omega)
    have hY' := (hY.chg hc15 (fun ad e hne hk => by have := hY0.blk e hne; omega) : Bs w15 ap cp b)
    refine W.nil ?_
    refine At.thenCode ?_
    refine C.seq ?_
    refine C.region ?_
    refine W.loadA rfl (hB15.cells (o := 0)) Try.underlying107 rfl (by rw [List.drop_zero, List.length_map, hkl]; kernel_rfl) rfl ?_
    refine W.call Try.call84 rfl (masked_ok hkl 54 _) rfl ?_
    rintro v20 w20 ⟨hO20, hX20⟩
    refine W.move rfl rfl ?_
    refine W.appendB E8 Try.underlying24 rfl rfl hO20 (hY'.ext hX20) (by omega) hX20.size rfl ?_
    intro v22 w22 ho22 hg22 _
    have hX22 : Ext w15 w22 := hX20.news (Chg.of_grown hg22) (fun k hk => Or.inr ((World.ownsRow.lt hO20 k hk.symm).1))
    obtain ⟨ao22, c22, rfl, hS22, _⟩ := ownsRow_form ho22
    refine W.call Try.call63 rfl (Sum_ok _ _ _ _ hS22 (by rw [List.length_append]; omega)) rfl ?_
    rintro v23 w23 ⟨rfl, hX23⟩
    obtain ⟨inn, hinn⟩ : ∃ inn, inn = shaV (maskB 54 kp ++ b) := ⟨_, rfl⟩
    have hil : inn.length = 32 := by rw [hinn]; exact shaV_length _
    rw [← hinn]
    refine W.alloc (z := .agg (List.replicate 32 (byteV 0)).toArray) (List.replicate 32 (byteV 0)) (by kernel_rfl) rfl rfl ?_
    intro g7 w24 hg7 hX24 hB7
    refine W.storeA (inn.map byteV) rfl rfl hB7 (by rw [List.length_map, hil]; rfl) (by rw [List.length_map, hil]; kernel_rfl) (bytes_oneCell _) ?_
    intro w25 hc25 hB7
    have hsz := hB4'.lt
    have hsz5 := hB15.lt
    have hs22 := hX22.size
    have hs23 := hX23.size
    have hs15 := hX15.size
    have hn7 : g4 ≠ g7 ∧ g5 ≠ g7 ∧ w15.heap.size ≤ g7 := by omega
    have hX25 : Ext w15 w25 := ((hX22.ext hX23).ext hX24).news hc25 (fun k hk => Or.inr (by omega))
    refine W.nil ?_
    refine At.thenCode ?_
    refine C.seq ?_
    refine C.regionAny 3 ((fun v w => v = .agg (kp.map byteV).toArray) :: (fun v w => ∃ b, w25.heap.size ≤ b ∧ Ow w b 5 v (maskB 92 kp) ∧ b ≤ w.heap.size) :: (fun v w => v = .slice (some ⟨g7, 0, none⟩) 32 32) :: []) [(4, .pointer (some ⟨g4, 0, none⟩)), (5, .pointer (some ⟨g5, 0, none⟩)), (7, .pointer (some ⟨g7, 0, none⟩))] [] (Sub.cons (rfl) (Sub.cons (rfl) (Sub.cons (rfl) (Sub.nil)))) (Sub.nil) (Sub.cons (rfl) (Sub.cons (rfl) (Sub.cons (rfl) (Sub.nil)))) (by kernel_rfl) rfl rfl rfl (And.intro (fun _ _ _ h _ => h) (And.intro (fun _ _ _ ⟨b, hb, h, hs⟩ g => ⟨b, hb, ownsRow_ext h g, Nat.le_trans hs g.size⟩) (And.intro (fun _ _ _ h _ => h) (trivial)))) ?_ ?_
    · refine And.intro ?_ ?_
      · intro L_ w26 hX_ hs_ hf_ hd_
        refine W.step [(5, _)] (Sub.cons (hs_ _ _ rfl) (Sub.refl _)) ?_
        refine W.loadA rfl (((hB15.ext hX25).ext hX_).cells (o := 0)) Try.underlying107 rfl (by rw [List.drop_zero, List.length_map, hkl]; kernel_rfl) rfl ?_
        refine W.nil ?_
        exact At.step (Ext.refl _) rfl
      refine And.intro ?_ ?_
      · intro L_ w26 hX_ hs_ hf_ hd_
        obtain ⟨v0, e0, r0⟩ := hd_ 0 rfl
        obtain rfl : (.agg (kp.map byteV).toArray : Value) = v0 := Eq.symm r0
        refine W.step [(24, _)] (Sub.cons (e0 _ rfl) (Sub.refl _)) ?_
        refine W.call Try.call84 rfl (masked_ok hkl 92 _) rfl ?_
        rintro v27 w27 ⟨hO27, hX27⟩
        refine W.nil ?_
        exact At.step hX27 ⟨_, hX_.size, hO27, hX27.size⟩
      refine And.intro ?_ ?_
      · intro L_ w26 hX_ hs_ hf_ hd_
        refine W.step [(7, _)] (Sub.cons (hs_ _ _ rfl) (Sub.refl _)) ?_
        refine W.sliceA X8 Try.underlying23 rfl rfl ?_
        refine W.nil ?_
        exact At.step (Ext.refl _) rfl
      exact trivial
    · intro L_ w26 hX7 hs_ hv_
      obtain ⟨v1, e1, r1⟩ := hv_ 1 (by decide)
      obtain ⟨b1, hb1, hO1, hs1⟩ := r1
      obtain ⟨v2, e2, r2⟩ := hv_ 2 (by decide)
      obtain rfl : (.slice (some ⟨g7, 0, none⟩) 32 32 : Value) = v2 := Eq.symm r2
      refine W.weaken (l' := [(25, _), (26, _), (4, _), (5, _), (7, _)]) (Sub.cons (e1 _ rfl) (Sub.cons (e2 _ rfl) (Sub.cons (hs_ _ _ rfl) (Sub.cons (hs_ _ _ rfl) (Sub.cons (hs_ _ _ rfl) (Sub.nil)))))) ?_
      have hS7 : Sl w26 (some ⟨g7, 0, none⟩) 32 32 1 (inn.map byteV) := (hB7.ext hX7).sl 1 (by rw [List.length_map, hil]) (by omega)
      have hS7' : Bs w26 (some ⟨g7, 0, none⟩) 32 inn := by show Sl _ _ _ _ _ _; rw [hil]; exact hS7
      refine W.appendB (ys := inn) E8 Try.underlying24 rfl (look_eq rfl (by rw [hil])) hO1 hS7' (by omega) hs1 rfl ?_
      intro v28 w28 ho28 hg28 _
      have hX28 : Ext w25 w28 := hX7.news (Chg.of_grown hg28) (fun k hk => Or.inr (by have := (World.ownsRow.lt hO1 k hk.symm).1; omega))
      obtain ⟨ao28, c28, rfl, hS28, _⟩ := ownsRow_form ho28
      refine W.call Try.call63 rfl (Sum_ok _ _ _ _ hS28 (by rw [List.length_append]; omega)) rfl ?_
      rintro v29 w29 ⟨rfl, hX29⟩
      have hfin : shaV (maskB 92 kp ++ inn) = macV key b := by rw [macV, ← hkp, hinn]
      rw [hfin]
      have hml := macV_length key b
      refine W.storeA ((macV key b).map byteV) rfl rfl (((hB4'.ext hX25).ext hX28).ext hX29) (by rw [List.length_map, hml]; rfl) (by rw [List.length_map, hml]; kernel_rfl) (bytes_oneCell _) ?_
      intro wz hcz hBz
      refine W.nil ?_
      refine At.thenCode ?_
      refine C.ret ?_
      -- RESULT IN A CELL
      refine At.retC Try.results61 rfl (hBz.cells (o := 0)) Try.underlying23 rfl (by rw [List.drop_zero, List.length_map, hml]; kernel_rfl) ⟨rfl, ?_⟩
      exact (((hX15.ext hX25).ext hX28).ext hX29).news hcz (fun k hk => Or.inr (by omega))

theorem own_sl {w : World} {base e sz n c : Nat} {ao : Option Addr} {cs : List Value} (h : w.ownsRow base e sz (.slice ao n c) n cs) : Sl w ao n c sz cs := by
  obtain ⟨ao1, c1, he1, hS1, _⟩ := ownsRow_form h
  injection he1 with h1 h2 h3
  subst h1; subst h3
  exact hS1
def fill64 (m : UInt8) (kp : List UInt8) (i : Nat) : List UInt8 := maskB m (kp.take i) ++ List.replicate (64 - i) 0
theorem fill64_set {m : UInt8} {kp : List UInt8} {i : Nat} (hk : kp.length = 64) (hi : i < 64) : (fill64 m kp i).set i (kp.getD i 0 ^^^ m) = fill64 m kp (i + 1) := by
  have hl : (maskB m (kp.take i)).length = i := by rw [maskB_length, List.length_take]; omega
  unfold fill64
  rw [List.set_append_right _ _ (by omega), hl, Nat.sub_self, show 64 - i = (64 - (i + 1)) + 1 by omega, List.replicate_succ, List.set_cons_zero]
  have e : maskB m (kp.take (i + 1)) = maskB m (kp.take i) ++ [kp.getD i 0 ^^^ m] := by
    rw [List.take_succ_eq_append_getElem (by omega)]; unfold maskB; rw [List.map_append]
    simp [List.getD, show i < kp.length by omega]
  rw [e, List.append_assoc]
  rfl
theorem fill64_full {m : UInt8} {kp : List UInt8} (hk : kp.length = 64) : fill64 m kp 64 = maskB m kp := by
  unfold fill64; rw [List.take_of_length_le (by omega)]; simp
theorem fill64_length {m : UInt8} {kp : List UInt8} {i : Nat} (hk : kp.length = 64) (hi : i ≤ 64) : (fill64 m kp i).length = 64 := by
  unfold fill64; rw [List.length_append, maskB_length, List.length_take, List.length_replicate]; omega
theorem pad64_get {k : List UInt8} {i : Nat} (h : i < k.length) : (pad64 k).getD i 0 = k[i]'h := by
  simp [pad64, List.getD, List.getElem?_append_left h, h]
theorem pad64_zero {k : List UInt8} {i : Nat} (h : ¬ i < k.length) (hi : i < 64) : (pad64 k).getD i 0 = 0 := by
  simp only [pad64, List.getD]
  rw [List.getElem?_append_right (by omega), List.getElem?_replicate, if_pos (by omega)]; rfl
theorem ow_of {w : World} {base e : Nat} {v : Value} {xs : List UInt8} {n : Nat} (h : w.ownsRow base e 1 v n (xs.map byteV)) (hn : xs.length = n) : Ow w base e v xs := by
  subst hn; exact h
theorem RMac_ok (ao : Option Addr) (c : Nat) (key : List UInt8) (ap : Option Addr) (cp : Nat) (b : List UInt8) (w : World) (hS : Bs w ao c key) (hY : Bs w ap cp b) (hl : key.length ≤ 900000) (hlb : b.length ≤ 900000) :
    Ct Try.prog 62 #[.slice ao key.length c, .slice ap b.length cp] w (fun v w' => v = keyV (macV key b) ∧ Ext w w') := by
  refine Ct.enter [(0, .slice ao key.length c), (1, .slice ap b.length cp)] Try.func62 rfl rfl rfl rfl ?_
  obtain ⟨kp, hkp⟩ : ∃ kp, kp = pad64 (shortK key) := ⟨_, rfl⟩
  have hkl : kp.length = 64 := by rw [hkp]; exact pad64_length (shortK_le key)
  have hsl := shortK_le key
  have hm1 := maskB_length 54 kp
  have hm2 := maskB_length 92 kp
  refine C.seq ?_
  refine C.region ?_
  refine W.alloc (z := .agg (List.replicate 32 (byteV 0)).toArray) (List.replicate 32 (byteV 0)) (by kernel_rfl) rfl rfl ?_
  intro g4 w4 hg4 hX4 hB4
  have hl4 := hB4.lt
  have hs4 := hX4.size
  have hb4 : w.heap.size ≤ g4 := by omega
  have hS := hS.ext hX4
  have hY := hY.ext hX4
  refine W.nil ?_
  refine At.thenCode ?_
  refine C.seq ?_
  refine C.seq ?_
  refine C.region ?_
  refine W.move rfl rfl ?_
  refine W.lenS rfl Try.underlying24 rfl ?_
  refine W.gtrI rfl rfl rfl ?_
  refine W.nil ?_
  refine At.thenCode ?_
  first | refine C.condD rfl (fun c13 => ?_) (fun c13 => ?_) | refine C.cond rfl (fun c13 => ?_) (fun c13 => ?_)
  · refine C.seq ?_
    refine C.region ?_
    refine W.move rfl rfl ?_
    have hsk : shortK key = shaV key := by unfold shortK; rw [if_pos (by omega)]
    refine W.call Try.call47 rfl (RSha_ok _ _ _ _ hS (by omega)) rfl ?_
    rintro v15 w15 ⟨rfl, hX15⟩
    refine W.alloc (z := .agg (List.replicate 32 (byteV 0)).toArray) (List.replicate 32 (byteV 0)) (by kernel_rfl) rfl rfl ?_
    intro g5 w5 hg5 hX5 hB5
    have hshl := shaV_length key
    refine W.storeA ((shaV key).map byteV) rfl rfl hB5 (by rw [List.length_map, hshl]; rfl) (by rw [List.length_map, hshl]; kernel_rfl) (bytes_oneCell _) ?_
    intro w7 hc7 hB5
    have hs15 := hX15.size
    have hX7 : Ext w4 w7 := (hX15.ext hX5).news hc7 (fun k hk => Or.inr (by omega))
    have hXk := hX4.ext hX7
    have hB4 := hB4.ext hX7
    have hY := hY.ext hX7
    refine W.nil ?_
    refine At.thenCode ?_
    refine C.region ?_
    refine W.sliceA X8 Try.underlying23 rfl rfl ?_
    obtain ⟨ka, kc, hk0, hSk⟩ : ∃ ka kc, Value.slice (some ⟨g5, 0, none⟩) 32 32 = .slice ka (shortK key).length kc ∧ Bs w7 ka kc (shortK key) :=
      ⟨some ⟨g5, 0, none⟩, 32, by rw [hsk, hshl], by show Sl _ _ _ _ _ _; rw [hsk, hshl]; exact hB5.sl 1 (by rw [List.length_map, hshl]) (by omega)⟩
    refine W.assign rfl rfl ?_
    refine W.nil ?_
    refine At.thenCode ?_
    refine C.seq ?_
    refine C.region ?_
    refine W.makeB (k := 64) E8 Try.underlying24 rfl rfl rfl rfl (by decide) (by decide) rfl ?_
    intro g17 w17 hg17 hX17 ho17
    have hl17 := hB4.lt
    refine W.assign rfl rfl ?_
    refine W.nil ?_
    refine At.thenCode ?_
    refine C.seq ?_
    refine C.region ?_
    refine W.makeB (k := 64) E8 Try.underlying24 rfl rfl rfl rfl (by decide) (by decide) rfl ?_
    intro g18 w18 hg18 hX18 ho18
    have hsz := hXk.size
    have hsz17 := hX17.size
    have hlt17 := (World.ownsRow.lt ho17 g17 rfl).2
    have hnn : g17 ≠ g18 ∧ g4 ≠ g17 ∧ g4 ≠ g18 ∧ w.heap.size ≤ g17 ∧ w.heap.size ≤ g18 := by omega
    have ho17 := ownsRow_base (ownsRow_ext ho17 hX18) hsz
    have ho18 := ownsRow_base ho18 (Nat.le_trans hsz hsz17)
    have hXs := (hXk.ext hX17).ext hX18
    have hka : ∀ ad, ka = some ad → (shortK key).map byteV ≠ [] → ad.block < g17 := fun ad e hne => by have := hSk.blk e hne; omega
    have hpa : ∀ ad, ap = some ad → b.map byteV ≠ [] → ad.block < g17 := fun ad e hne => by have := Sl.blk hY e hne; omega
    refine W.assign rfl rfl ?_
    refine W.nil ?_
    refine At.thenCode ?_
    refine C.seq ?_
    refine C.seq ?_
    refine C.region ?_
    refine W.assign rfl rfl ?_
    refine W.nil ?_
    refine At.thenCode ?_
    refine C.block ?_
    refine C.loop (X := Nat) (fun x_ => [(0, .slice ka (shortK key).length kc), (1, .slice ap b.length cp), (4, .pointer (some ⟨g4, 0, none⟩)), (6, .slice (some ⟨g17, 0, none⟩) 64 64), (7, .slice (some ⟨g18, 0, none⟩) 64 64), (8, .int .i64 (x_ : Int))]) (fun x_ w1 => Ext w w1 ∧ x_ ≤ 64 ∧ Bk w1 g4 (List.replicate 32 (byteV 0)) ∧ Bs w1 ka kc (shortK key) ∧ Bs w1 ap cp b ∧ World.ownsRow w1 w.heap.size 5 1 (.slice (some ⟨g17, 0, none⟩) 64 64) 64 ((fill64 54 kp x_).map byteV) ∧ World.ownsRow w1 w.heap.size 5 1 (.slice (some ⟨g18, 0, none⟩) 64 64) 64 ((fill64 92 kp x_).map byteV)) (fun x_ => 64 - x_) (0) (Sub.cons (look_eq rfl (hk0)) (Sub.cons (rfl) (Sub.cons (rfl) (Sub.cons (rfl) (Sub.cons (rfl) (Sub.cons (rfl) (Sub.nil))))))) ?start1 ?_
    case start1 =>
      show Ext w _ ∧ (0) ≤ 64 ∧ Bk _ g4 (List.replicate 32 (byteV 0)) ∧ Bs _ ka kc (shortK key) ∧ Bs _ ap cp b ∧ World.ownsRow _ w.heap.size 5 1 (.slice (some ⟨g17, 0, none⟩) 64 64) 64 ((fill64 54 kp (0)).map byteV) ∧ World.ownsRow _ w.heap.size 5 1 (.slice (some ⟨g18, 0, none⟩) 64 64) 64 ((fill64 92 kp (0)).map byteV)
      exact ⟨hXs, by omega, (hB4.ext hX17).ext hX18, (hSk.ext hX17).ext hX18, (hY.ext hX17).ext hX18, ho17, ho18⟩
    rintro i w1 hI_
    replace hI_ : Ext w w1 ∧ i ≤ 64 ∧ Bk w1 g4 (List.replicate 32 (byteV 0)) ∧ Bs w1 ka kc (shortK key) ∧ Bs w1 ap cp b ∧ World.ownsRow w1 w.heap.size 5 1 (.slice (some ⟨g17, 0, none⟩) 64 64) 64 ((fill64 54 kp i).map byteV) ∧ World.ownsRow w1 w.heap.size 5 1 (.slice (some ⟨g18, 0, none⟩) 64 64) 64 ((fill64 92 kp i).map byteV) := hI_
    obtain ⟨hX1, hi, hB4, hSk, hY, hO17, hO18⟩ := hI_
    refine C.weaken (l' := [(0, .slice ka (shortK key).length kc), (1, .slice ap b.length cp), (4, .pointer (some ⟨g4, 0, none⟩)), (6, .slice (some ⟨g17, 0, none⟩) 64 64), (7, .slice (some ⟨g18, 0, none⟩) 64 64), (8, .int .i64 (i : Int))]) (Sub.cons (rfl) (Sub.cons (rfl) (Sub.cons (rfl) (Sub.cons (rfl) (Sub.cons (rfl) (Sub.cons (rfl) (Sub.nil))))))) ?_
    refine C.seq ?_
    refine C.seq ?_
    refine C.region ?_
    refine W.move rfl rfl ?_
    refine W.lssI rfl rfl rfl ?_
    refine W.nil ?_
    refine At.thenCode ?_
    first | refine C.condD rfl (fun c20 => ?_) (fun c20 => ?_) | refine C.cond rfl (fun c20 => ?_) (fun c20 => ?_)
    · refine C.skip ?_
      refine At.thenCode ?_
      refine C.seq ?_
      refine C.block ?_
      refine C.seq ?_
      refine C.region ?_
      refine W.assign rfl rfl ?_
      refine W.nil ?_
      refine At.thenCode ?_
      refine C.seq ?_
      refine C.seq ?_
      refine C.region ?_
      refine W.move rfl rfl ?_
      refine W.move rfl rfl ?_
      refine W.lenS rfl Try.underlying24 rfl ?_
      refine W.lssI rfl rfl rfl ?_
      refine W.nil ?_
      refine At.thenCode ?_
      first | refine C.condD rfl (fun c26 => ?_) (fun c26 => ?_) | refine C.cond rfl (fun c26 => ?_) (fun c26 => ?_)
      · refine C.region ?_
        refine W.move rfl rfl ?_
        refine W.move rfl rfl ?_
        have hlt : i < (shortK key).length := by omega
        refine W.idx (v := byteV (kp.getD i 0)) E8 Try.underlying24 Try.underlying5 rfl rfl hSk rfl (by omega) (by rw [Int.toNat_natCast, hkp, pad64_get hlt]; exact get_byte hlt) rfl rfl ?_
        intro p29
        -- read with the address
        refine W.assign rfl rfl ?_
        refine W.nil ?_
        refine At.thenCode ?_
        refine C.seq ?_
        refine C.region ?_
        refine W.move rfl rfl ?_
        refine W.move rfl rfl ?_
        refine W.move rfl rfl ?_
        refine W.eqv (v' := byteV (kp.getD i 0)) (by first | rfl | (rw [hz]; rfl)) ?_
        refine W.xorU (M := 256) (n := 54) rfl rfl rfl rfl rfl ?_
        refine W.eqv (v' := byteV (kp.getD i 0 ^^^ 54)) (by rw [show (54 : Nat) = (54 : UInt8).toNat from rfl, xor_byte]; rfl) ?_
        refine W.indexS E8 Try.underlying24 rfl (own_sl hO17) rfl (by omega) rfl ?_
        intro ad35 _ had35 _
        obtain rfl : ad35 = ⟨g17, i, none⟩ := by rw [had35 _ rfl, add_mk, Int.toNat_natCast, Nat.zero_add, Nat.mul_one]
        refine W.storeO rfl rfl rfl hO17 (by omega) (by kernel_rfl) ?_
        intro w9 hc9 hO9
        rw [← List.map_set, fill64_set hkl (by omega)] at hO9
        have hO18 := ownsRow_chg hO18 hc9 (fun k hk => by have h8 : g18 = k := Option.some.inj hk
                                                          omega)
        refine W.nil ?_
        refine At.thenCode ?_
        refine C.region ?_
        refine W.move rfl rfl ?_
        refine W.move rfl rfl ?_
        refine W.move rfl rfl ?_
        refine W.eqv (v' := byteV (kp.getD i 0)) (by first | rfl | (rw [hz]; rfl)) ?_
        refine W.xorU (M := 256) (n := 92) rfl rfl rfl rfl rfl ?_
        refine W.eqv (v' := byteV (kp.getD i 0 ^^^ 92)) (by rw [show (92 : Nat) = (92 : UInt8).toNat from rfl, xor_byte]; rfl) ?_
        refine W.indexS E8 Try.underlying24 rfl (own_sl hO18) rfl (by omega) rfl ?_
        intro ad40 _ had40 _
        obtain rfl : ad40 = ⟨g18, i, none⟩ := by rw [had40 _ rfl, add_mk, Int.toNat_natCast, Nat.zero_add, Nat.mul_one]
        refine W.storeO rfl rfl rfl hO18 (by omega) (by kernel_rfl) ?_
        intro w10 hc10 hO10
        rw [← List.map_set, fill64_set hkl (by omega)] at hO10
        have hO9 := ownsRow_chg hO9 hc10 (fun k hk => by have h8 : g17 = k := Option.some.inj hk
                                                         omega)
        refine W.nil ?_
        refine At.blockNormal ?_
        refine At.thenCode ?_
        refine C.region ?_
        refine W.move rfl rfl ?_
        first | refine W.addI rfl rfl (by omega) rfl ?_ | refine W.addW rfl rfl rfl ?_
        refine W.assign rfl rfl ?_
        refine W.nil ?_
        refine At.thenRound (i + 1) (Sub.cons (rfl) (Sub.cons (rfl) (Sub.cons (rfl) (Sub.cons (rfl) (Sub.cons (rfl) (Sub.cons (look_eq rfl (by rw [show (i : Int) + 1 = ((i + 1 : Nat) : Int) by omega])) (Sub.nil))))))) (show Ext w _ ∧ (i + 1) ≤ 64 ∧ Bk _ g4 (List.replicate 32 (byteV 0)) ∧ Bs _ ka kc (shortK key) ∧ Bs _ ap cp b ∧ World.ownsRow _ w.heap.size 5 1 (.slice (some ⟨g17, 0, none⟩) 64 64) 64 ((fill64 54 kp (i + 1)).map byteV) ∧ World.ownsRow _ w.heap.size 5 1 (.slice (some ⟨g18, 0, none⟩) 64 64) 64 ((fill64 92 kp (i + 1)).map byteV) from ?_) (show 64 - (i + 1) < 64 - i from ?_)
        · exact ⟨(hX1.news hc9 (fun k hk => Or.inr (by omega))).news hc10 (fun k hk => Or.inr (by omega)), by omega, (hB4.chg hc9 (by omega)).chg hc10 (by omega), Sl.chg (Sl.chg hSk hc9 (fun ad e hne hk => by have := hka ad e hne; omega)) hc10 (fun ad e hne hk => by have := hka ad e hne; omega), Sl.chg (Sl.chg hY hc9 (fun ad e hne hk => by have := hpa ad e hne; omega)) hc10 (fun ad e hne hk => by have := hpa ad e hne; omega), hO9, hO10⟩
        · omega
      · have hz : kp.getD i 0 = 0 := by rw [hkp]; exact pad64_zero (by omega) (by omega)
        refine C.skip ?_
        refine At.thenCode ?_
        refine C.seq ?_
        refine C.region ?_
        refine W.move rfl rfl ?_
        refine W.move rfl rfl ?_
        refine W.move rfl rfl ?_
        refine W.eqv (v' := byteV (kp.getD i 0)) (by first | rfl | (rw [hz]; rfl)) ?_
        refine W.xorU (M := 256) (n := 54) rfl rfl rfl rfl rfl ?_
        refine W.eqv (v' := byteV (kp.getD i 0 ^^^ 54)) (by rw [show (54 : Nat) = (54 : UInt8).toNat from rfl, xor_byte]; rfl) ?_
        refine W.indexS E8 Try.underlying24 rfl (own_sl hO17) rfl (by omega) rfl ?_
        intro ad35 _ had35 _
        obtain rfl : ad35 = ⟨g17, i, none⟩ := by rw [had35 _ rfl, add_mk, Int.toNat_natCast, Nat.zero_add, Nat.mul_one]
        refine W.storeO rfl rfl rfl hO17 (by omega) (by kernel_rfl) ?_
        intro w9 hc9 hO9
        rw [← List.map_set, fill64_set hkl (by omega)] at hO9
        have hO18 := ownsRow_chg hO18 hc9 (fun k hk => by have h8 : g18 = k := Option.some.inj hk
                                                          omega)
        refine W.nil ?_
        refine At.thenCode ?_
        refine C.region ?_
        refine W.move rfl rfl ?_
        refine W.move rfl rfl ?_
        refine W.move rfl rfl ?_
        refine W.eqv (v' := byteV (kp.getD i 0)) (by first | rfl | (rw [hz]; rfl)) ?_
        refine W.xorU (M := 256) (n := 92) rfl rfl rfl rfl rfl ?_
        refine W.eqv (v' := byteV (kp.getD i 0 ^^^ 92)) (by rw [show (92 : Nat) = (92 : UInt8).toNat from rfl, xor_byte]; rfl) ?_
        refine W.indexS E8 Try.underlying24 rfl (own_sl hO18) rfl (by omega) rfl ?_
        intro ad40 _ had40 _
        obtain rfl : ad40 = ⟨g18, i, none⟩ := by rw [had40 _ rfl, add_mk, Int.toNat_natCast, Nat.zero_add, Nat.mul_one]
        refine W.storeO rfl rfl rfl hO18 (by omega) (by kernel_rfl) ?_
        intro w10 hc10 hO10
        rw [← List.map_set, fill64_set hkl (by omega)] at hO10
        have hO9 := ownsRow_chg hO9 hc10 (fun k hk => by have h8 : g17 = k := Option.some.inj hk
                                                         omega)
        refine W.nil ?_
        refine At.blockNormal ?_
        refine At.thenCode ?_
        refine C.region ?_
        refine W.move rfl rfl ?_
        first | refine W.addI rfl rfl (by omega) rfl ?_ | refine W.addW rfl rfl rfl ?_
        refine W.assign rfl rfl ?_
        refine W.nil ?_
        refine At.thenRound (i + 1) (Sub.cons (rfl) (Sub.cons (rfl) (Sub.cons (rfl) (Sub.cons (rfl) (Sub.cons (rfl) (Sub.cons (look_eq rfl (by rw [show (i : Int) + 1 = ((i + 1 : Nat) : Int) by omega])) (Sub.nil))))))) (show Ext w _ ∧ (i + 1) ≤ 64 ∧ Bk _ g4 (List.replicate 32 (byteV 0)) ∧ Bs _ ka kc (shortK key) ∧ Bs _ ap cp b ∧ World.ownsRow _ w.heap.size 5 1 (.slice (some ⟨g17, 0, none⟩) 64 64) 64 ((fill64 54 kp (i + 1)).map byteV) ∧ World.ownsRow _ w.heap.size 5 1 (.slice (some ⟨g18, 0, none⟩) 64 64) 64 ((fill64 92 kp (i + 1)).map byteV) from ?_) (show 64 - (i + 1) < 64 - i from ?_)
        · exact ⟨(hX1.news hc9 (fun k hk => Or.inr (by omega))).news hc10 (fun k hk => Or.inr (by omega)), by omega, (hB4.chg hc9 (by omega)).chg hc10 (by omega), Sl.chg (Sl.chg hSk hc9 (fun ad e hne hk => by have := hka ad e hne; omega)) hc10 (fun ad e hne hk => by have := hka ad e hne; omega), Sl.chg (Sl.chg hY hc9 (fun ad e hne hk => by have := hpa ad e hne; omega)) hc10 (fun ad e hne hk => by have := hpa ad e hne; omega), hO9, hO10⟩
        · omega
    · obtain rfl : i = 64 := by omega
      rw [fill64_full hkl] at hO17 hO18
      have hO17 := ow_of hO17 (by omega)
      refine C.exit ?_
      refine At.thenExit ?_
      refine At.thenExit ?_
      refine At.blockSelf ?_
      refine At.thenCode ?_
      refine C.seq ?_
      refine C.region ?_
      refine W.move rfl rfl ?_
      refine W.move rfl rfl ?_
      refine W.appendB E8 Try.underlying24 rfl rfl hO17 hY (by omega) hX1.size rfl ?_
      intro v43 w43 ho43 hg43 _
      have hc43 := Chg.of_grown hg43
      have hX43 : Ext w w43 := hX1.news hc43 (fun k hk => Or.inr ((World.ownsRow.lt hO17 k hk.symm).1))
      have hO18 := ownsRow_chg hO18 hc43 (fun k hk he => by
        have h8 : g18 = k := Option.some.inj hk
        have h9 : k = g17 := Option.some.inj he
        omega)
      have hB4 := hB4.chg hc43 (fun he => by have h9 : g4 = g17 := Option.some.inj he; omega)
      obtain ⟨ao43, c43, rfl, hS43, _⟩ := ownsRow_form ho43
      refine W.call Try.call47 rfl (RSha_ok _ _ _ _ hS43 (by rw [List.length_append]; omega)) rfl ?_
      rintro v44 w44 ⟨rfl, hX44⟩
      obtain ⟨inn, hinn⟩ : ∃ inn, inn = shaV (maskB 54 kp ++ b) := ⟨_, rfl⟩
      have hil : inn.length = 32 := by rw [hinn]; exact shaV_length _
      rw [← hinn]
      refine W.alloc (z := .agg (List.replicate 32 (byteV 0)).toArray) (List.replicate 32 (byteV 0)) (by kernel_rfl) rfl rfl ?_
      intro g10 w45 hg10 hX45 hB10
      refine W.storeA (inn.map byteV) rfl rfl hB10 (by rw [List.length_map, hil]; rfl) (by rw [List.length_map, hil]; kernel_rfl) (bytes_oneCell _) ?_
      intro w46 hc46 hB10
      have hs43 := hX43.size
      have hs44 := hX44.size
      have hl4' := hB4.lt
      have hX46 : Ext w43 w46 := (hX44.ext hX45).news hc46 (fun k hk => Or.inr (by omega))
      have hB4 := hB4.ext hX46
      have hO18 := ow_of (ownsRow_ext hO18 hX46) (by omega)
      refine W.nil ?_
      refine At.thenCode ?_
      refine C.seq ?_
      refine C.region ?_
      refine W.move rfl rfl ?_
      refine W.sliceA X8 Try.underlying23 rfl rfl ?_
      have hS10 : Bs w46 (some ⟨g10, 0, none⟩) 32 inn := by show Sl _ _ _ _ _ _; rw [hil]; exact hB10.sl 1 (by rw [List.length_map, hil]) (by omega)
      refine W.appendB (ys := inn) E8 Try.underlying24 rfl (look_eq rfl (by rw [hil])) hO18 hS10 (by omega) (by have := hX46.size; omega) rfl ?_
      intro v47 w47 ho47 hg47 _
      have hc47 := Chg.of_grown hg47
      have hX47 : Ext w w47 := (hX43.ext hX46).news hc47 (fun k hk => Or.inr ((World.ownsRow.lt hO18 k hk.symm).1))
      have hB4 := hB4.chg hc47 (fun he => by have h9 : g4 = g18 := Option.some.inj he; omega)
      obtain ⟨ao47, c47, rfl, hS47, _⟩ := ownsRow_form ho47
      refine W.call Try.call47 rfl (RSha_ok _ _ _ _ hS47 (by rw [List.length_append]; omega)) rfl ?_
      rintro v48 w48 ⟨rfl, hX48⟩
      have hfin : shaV (maskB 92 kp ++ inn) = macV key b := by rw [macV, ← hkp, hinn]
      rw [hfin]
      have hml := macV_length key b
      refine W.storeA ((macV key b).map byteV) rfl rfl (hB4.ext hX48) (by rw [List.length_map, hml]; rfl) (by rw [List.length_map, hml]; kernel_rfl) (bytes_oneCell _) ?_
      intro wz hcz hBz
      refine W.nil ?_
      refine At.thenCode ?_
      refine C.ret ?_
      -- RESULT IN A CELL
      refine At.retC Try.results62 rfl (hBz.cells (o := 0)) Try.underlying23 rfl (by rw [List.drop_zero, List.length_map, hml]; kernel_rfl) ⟨rfl, ?_⟩
      exact (hX47.ext hX48).news hcz (fun k hk => Or.inr (by omega))
  · have hsk : shortK key = key := by unfold shortK; rw [if_neg (by omega)]
    obtain ⟨ka, kc, hk0, hSk⟩ : ∃ ka kc, Value.slice ao key.length c = .slice ka (shortK key).length kc ∧ Bs w4 ka kc (shortK key) := ⟨ao, c, by rw [hsk], by rw [hsk]; exact hS⟩
    have hXk := hX4
    refine C.skip ?_
    refine At.thenCode ?_
    refine C.seq ?_
    refine C.region ?_
    refine W.makeB (k := 64) E8 Try.underlying24 rfl rfl rfl rfl (by decide) (by decide) rfl ?_
    intro g17 w17 hg17 hX17 ho17
    have hl17 := hB4.lt
    refine W.assign rfl rfl ?_
    refine W.nil ?_
    refine At.thenCode ?_
    refine C.seq ?_
    refine C.region ?_
    refine W.makeB (k := 64) E8 Try.underlying24 rfl rfl rfl rfl (by decide) (by decide) rfl ?_
    intro g18 w18 hg18 hX18 ho18
    have hsz := hXk.size
    have hsz17 := hX17.size
    have hlt17 := (World.ownsRow.lt ho17 g17 rfl).2
    have hnn : g17 ≠ g18 ∧ g4 ≠ g17 ∧ g4 ≠ g18 ∧ w.heap.size ≤ g17 ∧ w.heap.size ≤ g18 := by omega
    have ho17 := ownsRow_base (ownsRow_ext ho17 hX18) hsz
    have ho18 := ownsRow_base ho18 (Nat.le_trans hsz hsz17)
    have hXs := (hXk.ext hX17).ext hX18
    have hka : ∀ ad, ka = some ad → (shortK key).map byteV ≠ [] → ad.block < g17 := fun ad e hne => by have := hSk.blk e hne; omega
    have hpa : ∀ ad, ap = some ad → b.map byteV ≠ [] → ad.block < g17 := fun ad e hne => by have := Sl.blk hY e hne; omega
    refine W.assign rfl rfl ?_
    refine W.nil ?_
    refine At.thenCode ?_
    refine C.seq ?_
    refine C.seq ?_
    refine C.region ?_
    refine W.assign rfl rfl ?_
    refine W.nil ?_
    refine At.thenCode ?_
    refine C.block ?_
    refine C.loop (X := Nat) (fun x_ => [(0, .slice ka (shortK key).length kc), (1, .slice ap b.length cp), (4, .pointer (some ⟨g4, 0, none⟩)), (6, .slice (some ⟨g17, 0, none⟩) 64 64), (7, .slice (some ⟨g18, 0, none⟩) 64 64), (8, .int .i64 (x_ : Int))]) (fun x_ w1 => Ext w w1 ∧ x_ ≤ 64 ∧ Bk w1 g4 (List.replicate 32 (byteV 0)) ∧ Bs w1 ka kc (shortK key) ∧ Bs w1 ap cp b ∧ World.ownsRow w1 w.heap.size 5 1 (.slice (some ⟨g17, 0, none⟩) 64 64) 64 ((fill64 54 kp x_).map byteV) ∧ World.ownsRow w1 w.heap.size 5 1 (.slice (some ⟨g18, 0, none⟩) 64 64) 64 ((fill64 92 kp x_).map byteV)) (fun x_ => 64 - x_) (0) (Sub.cons (look_eq rfl (hk0)) (Sub.cons (rfl) (Sub.cons (rfl) (Sub.cons (rfl) (Sub.cons (rfl) (Sub.cons (rfl) (Sub.nil))))))) ?start2 ?_
    case start2 =>
      show Ext w _ ∧ (0) ≤ 64 ∧ Bk _ g4 (List.replicate 32 (byteV 0)) ∧ Bs _ ka kc (shortK key) ∧ Bs _ ap cp b ∧ World.ownsRow _ w.heap.size 5 1 (.slice (some ⟨g17, 0, none⟩) 64 64) 64 ((fill64 54 kp (0)).map byteV) ∧ World.ownsRow _ w.heap.size 5 1 (.slice (some ⟨g18, 0, none⟩) 64 64) 64 ((fill64 92 kp (0)).map byteV)
      exact ⟨hXs, by omega, (hB4.ext hX17).ext hX18, (hSk.ext hX17).ext hX18, (hY.ext hX17).ext hX18, ho17, ho18⟩
    rintro i w1 hI_
    replace hI_ : Ext w w1 ∧ i ≤ 64 ∧ Bk w1 g4 (List.replicate 32 (byteV 0)) ∧ Bs w1 ka kc (shortK key) ∧ Bs w1 ap cp b ∧ World.ownsRow w1 w.heap.size 5 1 (.slice (some ⟨g17, 0, none⟩) 64 64) 64 ((fill64 54 kp i).map byteV) ∧ World.ownsRow w1 w.heap.size 5 1 (.slice (some ⟨g18, 0, none⟩) 64 64) 64 ((fill64 92 kp i).map byteV) := hI_
    obtain ⟨hX1, hi, hB4, hSk, hY, hO17, hO18⟩ := hI_
    refine C.weaken (l' := [(0, .slice ka (shortK key).length kc), (1, .slice ap b.length cp), (4, .pointer (some ⟨g4, 0, none⟩)), (6, .slice (some ⟨g17, 0, none⟩) 64 64), (7, .slice (some ⟨g18, 0, none⟩) 64 64), (8, .int .i64 (i : Int))]) (Sub.cons (rfl) (Sub.cons (rfl) (Sub.cons (rfl) (Sub.cons (rfl) (Sub.cons (rfl) (Sub.cons (rfl) (Sub.nil))))))) ?_
    refine C.seq ?_
    refine C.seq ?_
    refine C.region ?_
    refine W.move rfl rfl ?_
    refine W.lssI rfl rfl rfl ?_
    refine W.nil ?_
    refine At.thenCode ?_
    first | refine C.condD rfl (fun c20 => ?_) (fun c20 => ?_) | refine C.cond rfl (fun c20 => ?_) (fun c20 => ?_)
    · refine C.skip ?_
      refine At.thenCode ?_
      refine C.seq ?_
      refine C.block ?_
      refine C.seq ?_
      refine C.region ?_
      refine W.assign rfl rfl ?_
      refine W.nil ?_
      refine At.thenCode ?_
      refine C.seq ?_
      refine C.seq ?_
      refine C.region ?_
      refine W.move rfl rfl ?_
      refine W.move rfl rfl ?_
      refine W.lenS rfl Try.underlying24 rfl ?_
      refine W.lssI rfl rfl rfl ?_
      refine W.nil ?_
      refine At.thenCode ?_
      first | refine C.condD rfl (fun c26 => ?_) (fun c26 => ?_) | refine C.cond rfl (fun c26 => ?_) (fun c26 => ?_)
      · refine C.region ?_
        refine W.move rfl rfl ?_
        refine W.move rfl rfl ?_
        have hlt : i < (shortK key).length := by omega
        refine W.idx (v := byteV (kp.getD i 0)) E8 Try.underlying24 Try.underlying5 rfl rfl hSk rfl (by omega) (by rw [Int.toNat_natCast, hkp, pad64_get hlt]; exact get_byte hlt) rfl rfl ?_
        intro p29
        -- read with the address
        refine W.assign rfl rfl ?_
        refine W.nil ?_
        refine At.thenCode ?_
        refine C.seq ?_
        refine C.region ?_
        refine W.move rfl rfl ?_
        refine W.move rfl rfl ?_
        refine W.move rfl rfl ?_
        refine W.eqv (v' := byteV (kp.getD i 0)) (by first | rfl | (rw [hz]; rfl)) ?_
        refine W.xorU (M := 256) (n := 54) rfl rfl rfl rfl rfl ?_
        refine W.eqv (v' := byteV (kp.getD i 0 ^^^ 54)) (by rw [show (54 : Nat) = (54 : UInt8).toNat from rfl, xor_byte]; rfl) ?_
        refine W.indexS E8 Try.underlying24 rfl (own_sl hO17) rfl (by omega) rfl ?_
        intro ad35 _ had35 _
        obtain rfl : ad35 = ⟨g17, i, none⟩ := by rw [had35 _ rfl, add_mk, Int.toNat_natCast, Nat.zero_add, Nat.mul_one]
        refine W.storeO rfl rfl rfl hO17 (by omega) (by kernel_rfl) ?_
        intro w9 hc9 hO9
        rw [← List.map_set, fill64_set hkl (by omega)] at hO9
        have hO18 := ownsRow_chg hO18 hc9 (fun k hk => by have h8 : g18 = k := Option.some.inj hk
                                                          omega)
        refine W.nil ?_
        refine At.thenCode ?_
        refine C.region ?_
        refine W.move rfl rfl ?_
        refine W.move rfl rfl ?_
        refine W.move rfl rfl ?_
        refine W.eqv (v' := byteV (kp.getD i 0)) (by first | rfl | (rw [hz]; rfl)) ?_
        refine W.xorU (M := 256) (n := 92) rfl rfl rfl rfl rfl ?_
        refine W.eqv (v' := byteV (kp.getD i 0 ^^^ 92)) (by rw [show (92 : Nat) = (92 : UInt8).toNat from rfl, xor_byte]; rfl) ?_
        refine W.indexS E8 Try.underlying24 rfl (own_sl hO18) rfl (by omega) rfl ?_
        intro ad40 _ had40 _
        obtain rfl : ad40 = ⟨g18, i, none⟩ := by rw [had40 _ rfl, add_mk, Int.toNat_natCast, Nat.zero_add, Nat.mul_one]
        refine W.storeO rfl rfl rfl hO18 (by omega) (by kernel_rfl) ?_
        intro w10 hc10 hO10
        rw [← List.map_set, fill64_set hkl (by omega)] at hO10
        have hO9 := ownsRow_chg hO9 hc10 (fun k hk => by have h8 : g17 = k := Option.some.inj hk
                                                         omega)
        refine W.nil ?_
        refine At.blockNormal ?_
        refine At.thenCode ?_
        refine C.region ?_
        refine W.move rfl rfl ?_
        first | refine W.addI rfl rfl (by omega) rfl ?_ | refine W.addW rfl rfl rfl ?_
        refine W.assign rfl rfl ?_
        refine W.nil ?_
        refine At.thenRound (i + 1) (Sub.cons (rfl) (Sub.cons (rfl) (Sub.cons (rfl) (Sub.cons (rfl) (Sub.cons (rfl) (Sub.cons (look_eq rfl (by rw [show (i : Int) + 1 = ((i + 1 : Nat) : Int) by omega])) (Sub.nil))))))) (show Ext w _ ∧ (i + 1) ≤ 64 ∧ Bk _ g4 (List.replicate 32 (byteV 0)) ∧ Bs _ ka kc (shortK key) ∧ Bs _ ap cp b ∧ World.ownsRow _ w.heap.size 5 1 (.slice (some ⟨g17, 0, none⟩) 64 64) 64 ((fill64 54 kp (i + 1)).map byteV) ∧ World.ownsRow _ w.heap.size 5 1 (.slice (some ⟨g18, 0, none⟩) 64 64) 64 ((fill64 92 kp (i + 1)).map byteV) from ?_) (show 64 - (i + 1) < 64 - i from ?_)
        · exact ⟨(hX1.news hc9 (fun k hk => Or.inr (by omega))).news hc10 (fun k hk => Or.inr (by omega)), by omega, (hB4.chg hc9 (by omega)).chg hc10 (by omega), Sl.chg (Sl.chg hSk hc9 (fun ad e hne hk => by have := hka ad e hne; omega)) hc10 (fun ad e hne hk => by have := hka ad e hne; omega), Sl.chg (Sl.chg hY hc9 (fun ad e hne hk => by have := hpa ad e hne; omega)) hc10 (fun ad e hne hk => by have := hpa ad e hne; omega), hO9, hO10⟩
        · omega
      · have hz : kp.getD i 0 = 0 := by rw [hkp]; exact pad64_zero (by omega) (by omega)
        refine C.skip ?_
        refine At.thenCode ?_
        refine C.seq ?_
        refine C.region ?_
        refine W.move rfl rfl ?_
        refine W.move rfl rfl ?_
        refine W.move rfl rfl ?_
        refine W.eqv (v' := byteV (kp.getD i 0)) (by first | rfl | (rw [hz]; rfl)) ?_
        refine W.xorU (M := 256) (n := 54) rfl rfl rfl rfl rfl ?_
        refine W.eqv (v' := byteV (kp.getD i 0 ^^^ 54)) (by rw [show (54 : Nat) = (54 : UInt8).toNat from rfl, xor_byte]; rfl) ?_
        refine W.indexS E8 Try.underlying24 rfl (own_sl hO17) rfl (by omega) rfl ?_
        intro ad35 _ had35 _
        obtain rfl : ad35 = ⟨g17, i, none⟩ := by rw [had35 _ rfl, add_mk, Int.toNat_natCast, Nat.zero_add, Nat.mul_one]
        refine W.storeO rfl rfl rfl hO17 (by omega) (by kernel_rfl) ?_
        intro w9 hc9 hO9
        rw [← List.map_set, fill64_set hkl (by omega)] at hO9
        have hO18 := ownsRow_chg hO18 hc9 (fun k hk => by have h8 : g18 = k := Option.some.inj hk
                                                          omega)
        refine W.nil ?_
        refine At.thenCode ?_
        refine C.region ?_
        refine W.move rfl rfl ?_
        refine W.move rfl rfl ?_
        refine W.move rfl rfl ?_
        refine W.eqv (v' := byteV (kp.getD i 0)) (by first | rfl | (rw [hz]; rfl)) ?_
        refine W.xorU (M := 256) (n := 92) rfl rfl rfl rfl rfl ?_
        refine W.eqv (v' := byteV (kp.getD i 0 ^^^ 92)) (by rw [show (92 : Nat) = (92 : UInt8).toNat from rfl, xor_byte]; rfl) ?_
        refine W.indexS E8 Try.underlying24 rfl (own_sl hO18) rfl (by omega) rfl ?_
        intro ad40 _ had40 _
        obtain rfl : ad40 = ⟨g18, i, none⟩ := by rw [had40 _ rfl, add_mk, Int.toNat_natCast, Nat.zero_add, Nat.mul_one]
        refine W.storeO rfl rfl rfl hO18 (by omega) (by kernel_rfl) ?_
        intro w10 hc10 hO10
        rw [← List.map_set, fill64_set hkl (by omega)] at hO10
        have hO9 := ownsRow_chg hO9 hc10 (fun k hk => by have h8 : g17 = k := Option.some.inj hk
                                                         omega)
        refine W.nil ?_
        refine At.blockNormal ?_
        refine At.thenCode ?_
        refine C.region ?_
        refine W.move rfl rfl ?_
        first | refine W.addI rfl rfl (by omega) rfl ?_ | refine W.addW rfl rfl rfl ?_
        refine W.assign rfl rfl ?_
        refine W.nil ?_
        refine At.thenRound (i + 1) (Sub.cons (rfl) (Sub.cons (rfl) (Sub.cons (rfl) (Sub.cons (rfl) (Sub.cons (rfl) (Sub.cons (look_eq rfl (by rw [show (i : Int) + 1 = ((i + 1 : Nat) : Int) by omega])) (Sub.nil))))))) (show Ext w _ ∧ (i + 1) ≤ 64 ∧ Bk _ g4 (List.replicate 32 (byteV 0)) ∧ Bs _ ka kc (shortK key) ∧ Bs _ ap cp b ∧ World.ownsRow _ w.heap.size 5 1 (.slice (some ⟨g17, 0, none⟩) 64 64) 64 ((fill64 54 kp (i + 1)).map byteV) ∧ World.ownsRow _ w.heap.size 5 1 (.slice (some ⟨g18, 0, none⟩) 64 64) 64 ((fill64 92 kp (i + 1)).map byteV) from ?_) (show 64 - (i + 1) < 64 - i from ?_)
        · exact ⟨(hX1.news hc9 (fun k hk => Or.inr (by omega))).news hc10 (fun k hk => Or.inr (by omega)), by omega, (hB4.chg hc9 (by omega)).chg hc10 (by omega), Sl.chg (Sl.chg hSk hc9 (fun ad e hne hk => by have := hka ad e hne; omega)) hc10 (fun ad e hne hk => by have := hka ad e hne; omega), Sl.chg (Sl.chg hY hc9 (fun ad e hne hk => by have := hpa ad e hne; omega)) hc10 (fun ad e hne hk => by have := hpa ad e hne; omega), hO9, hO10⟩
        · omega
    · obtain rfl : i = 64 := by omega
      rw [fill64_full hkl] at hO17 hO18
      have hO17 := ow_of hO17 (by omega)
      refine C.exit ?_
      refine At.thenExit ?_
      refine At.thenExit ?_
      refine At.blockSelf ?_
      refine At.thenCode ?_
      refine C.seq ?_
      refine C.region ?_
      refine W.move rfl rfl ?_
      refine W.move rfl rfl ?_
      refine W.appendB E8 Try.underlying24 rfl rfl hO17 hY (by omega) hX1.size rfl ?_
      intro v43 w43 ho43 hg43 _
      have hc43 := Chg.of_grown hg43
      have hX43 : Ext w w43 := hX1.news hc43 (fun k hk => Or.inr ((World.ownsRow.lt hO17 k hk.symm).1))
      have hO18 := ownsRow_chg hO18 hc43 (fun k hk he => by
        have h8 : g18 = k := Option.some.inj hk
        have h9 : k = g17 := Option.some.inj he
        omega)
      have hB4 := hB4.chg hc43 (fun he => by have h9 : g4 = g17 := Option.some.inj he; omega)
      obtain ⟨ao43, c43, rfl, hS43, _⟩ := ownsRow_form ho43
      refine W.call Try.call47 rfl (RSha_ok _ _ _ _ hS43 (by rw [List.length_append]; omega)) rfl ?_
      rintro v44 w44 ⟨rfl, hX44⟩
      obtain ⟨inn, hinn⟩ : ∃ inn, inn = shaV (maskB 54 kp ++ b) := ⟨_, rfl⟩
      have hil : inn.length = 32 := by rw [hinn]; exact shaV_length _
      rw [← hinn]
      refine W.alloc (z := .agg (List.replicate 32 (byteV 0)).toArray) (List.replicate 32 (byteV 0)) (by kernel_rfl) rfl rfl ?_
      intro g10 w45 hg10 hX45 hB10
      refine W.storeA (inn.map byteV) rfl rfl hB10 (by rw [List.length_map, hil]; rfl) (by rw [List.length_map, hil]; kernel_rfl) (bytes_oneCell _) ?_
      intro w46 hc46 hB10
      have hs43 := hX43.size
      have hs44 := hX44.size
      have hl4' := hB4.lt
      have hX46 : Ext w43 w46 := (hX44.ext hX45).news hc46 (fun k hk => Or.inr (by omega))
      have hB4 := hB4.ext hX46
      have hO18 := ow_of (ownsRow_ext hO18 hX46) (by omega)
      refine W.nil ?_
      refine At.thenCode ?_
      refine C.seq ?_
      refine C.region ?_
      refine W.move rfl rfl ?_
      refine W.sliceA X8 Try.underlying23 rfl rfl ?_
      have hS10 : Bs w46 (some ⟨g10, 0, none⟩) 32 inn := by show Sl _ _ _ _ _ _; rw [hil]; exact hB10.sl 1 (by rw [List.length_map, hil]) (by omega)
      refine W.appendB (ys := inn) E8 Try.underlying24 rfl (look_eq rfl (by rw [hil])) hO18 hS10 (by omega) (by have := hX46.size; omega) rfl ?_
      intro v47 w47 ho47 hg47 _
      have hc47 := Chg.of_grown hg47
      have hX47 : Ext w w47 := (hX43.ext hX46).news hc47 (fun k hk => Or.inr ((World.ownsRow.lt hO18 k hk.symm).1))
      have hB4 := hB4.chg hc47 (fun he => by have h9 : g4 = g18 := Option.some.inj he; omega)
      obtain ⟨ao47, c47, rfl, hS47, _⟩ := ownsRow_form ho47
      refine W.call Try.call47 rfl (RSha_ok _ _ _ _ hS47 (by rw [List.length_append]; omega)) rfl ?_
      rintro v48 w48 ⟨rfl, hX48⟩
      have hfin : shaV (maskB 92 kp ++ inn) = macV key b := by rw [macV, ← hkp, hinn]
      rw [hfin]
      have hml := macV_length key b
      refine W.storeA ((macV key b).map byteV) rfl rfl (hB4.ext hX48) (by rw [List.length_map, hml]; rfl) (by rw [List.length_map, hml]; kernel_rfl) (bytes_oneCell _) ?_
      intro wz hcz hBz
      refine W.nil ?_
      refine At.thenCode ?_
      refine C.ret ?_
      -- RESULT IN A CELL
      refine At.retC Try.results62 rfl (hBz.cells (o := 0)) Try.underlying23 rfl (by rw [List.drop_zero, List.length_map, hml]; kernel_rfl) ⟨rfl, ?_⟩
      exact (hX47.ext hX48).news hcz (fun k hk => Or.inr (by omega))
end Go.Proofs.Ytkjmllohbohliaa.Mac
