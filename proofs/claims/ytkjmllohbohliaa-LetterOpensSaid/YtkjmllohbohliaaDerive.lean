/- Package derive and the reference's functions of chapter 4. -/
import Derived.Test.YtkjmllohbohliaaMac
import Derived.Test.YtkjmllohbohliaaKq
namespace Go.Proofs.Ytkjmllohbohliaa.Derive
open Go Go.RowKit Go.Proofs.Ytkjmllohbohliaa.KW Go.Proofs.Ytkjmllohbohliaa.Words Go.Proofs.Ytkjmllohbohliaa.Sha Go.Proofs.Ytkjmllohbohliaa.RSha Go.Proofs.Ytkjmllohbohliaa.Mac
set_option linter.unusedVariables false
set_option linter.unusedSimpArgs false
set_option maxRecDepth 100000

def blkT (key info : List UInt8) : Nat → List UInt8
  | 0 => []
  | i + 1 => macV key (blkT key info i ++ info ++ [UInt8.ofNat (i + 1)])
def outT (key info : List UInt8) : Nat → List UInt8
  | 0 => []
  | i + 1 => outT key info i ++ blkT key info (i + 1)
theorem blkT_length (key info : List UInt8) (i : Nat) : (blkT key info i).length ≤ 32 := by
  cases i with
  | zero => simp [blkT]
  | succ i => rw [blkT, macV_length]; exact Nat.le_refl _
theorem outT_length (key info : List UInt8) : ∀ i, (outT key info i).length = 32 * i := by
  intro i
  induction i with
  | zero => rfl
  | succ i ih => rw [outT, List.length_append, ih, blkT, macV_length]; omega
/-- n bytes. -/
def expandV (key info : List UInt8) (n : Int) : List UInt8 := if n < 1 ∨ 8160 < n then [] else (outT key info ((n.toNat + 31) / 32)).take n.toNat

section
variable {P : Program} {N : Nat} {Q : Exit → Act → World → Prop} {l : Env} {w : World} {ops : Array Oper} {rest : List Oper} {d : Tmp} {ty : TypeId} {pos : String} {aft : Array Edge}
/-- x[:n:n]. -/
theorem W.slice3 {x oh om : Operand} {t e c m bytes : Nat} {k1 k2 : IntKind} {z : Value} {ao : Option Addr} {xs : List UInt8} (hE : Elem P e 1 bytes z) (hT : P.underlying t = some (.slice e)) (hx : ev l x = some (.slice ao xs.length c)) (hs : Bs w ao c xs)
    (hh : ev l oh = some (.int k1 (m : Int))) (hm : ev l om = some (.int k2 (m : Int))) (h2 : m ≤ xs.length) (h0 : 0 < m) (hN : Nat.blt d N = true)
    (next : Bs w ao m (xs.take m) → W P N ops Q rest ((d, .slice ao (xs.take m).length m) :: l) w) :
    W P N ops Q (⟨some d, .slice t x none (some oh) (some om), ty, pos, aft, none⟩ :: rest) l w := by
  obtain ⟨i, hi', hz, hsz, hby⟩ := hE.out
  have hle := hs.le
  have hl : (xs.take m).length = m := by rw [List.length_take]; omega
  have hB : Bs w ao m (xs.take m) := ⟨by rw [hl]; exact Nat.le_refl _, by simp, (fun e => by have := hs.nil e; omega), fun ad e => by rw [List.map_take]; exact (hs.at_ ad e).take m⟩
  rw [hl] at next
  refine W.op (v := .slice ao m m) (w' := w) rfl rfl hN (fun a ha => ?_) (next hB)
  have b1 : ∀ (q : Nat) (k : IntKind) (code : BoundsCode) (j : Nat), j ≤ q → (Instr.sliceBound (.int k (j : Int)) q code).run P w = .ok j w := by
    intro q k code j hj
    have : (0 : Int) ≤ (j : Int) ∧ (j : Int) ≤ (q : Int) := by omega
    simp [Instr.sliceBound, asIntOf, this]
  have hm0 : ¬ m = 0 := by omega
  have hrun : (Instr.slice t (.slice ao xs.length c) none (some (a.eval oh)) (some (a.eval om))).run P w = .ok (.slice ao m m) w := by
    rw [ha.ev hh, ha.ev hm]
    cases ao <;> simp [Instr.slice, run_underlying hT, Instr.sliceBounds, sizeOf, typeInfo, hi', hsz, b1 c k2 _ m (by omega), b1 m k1 _ m (Nat.le_refl _), hm0, add_zero']
  simp only [execOp, Instr.sliceAt, ha.ev hx, Sem.run_bind, Sem.run_pure, Result.andThen_ok, run_underlying hT, Option.map_none, Option.map_some, hrun]
end

theorem Expand_ok (key info : List UInt8) (n : Int) (w : World) (hk : key.length = 32) (hn : -9223372036854775808 ≤ n ∧ n ≤ 9223372036854775807) (hil : info.length ≤ 100000) :
    Ct Try.prog 68 #[keyV key, strV info, .int .i64 n] w (fun v w' => (∃ ao c, v = .slice ao (expandV key info n).length c ∧ Bs w' ao c (expandV key info n) ∧ ∀ ad, ao = some ad → w.heap.size ≤ ad.block) ∧ Ext w w') := by
  refine Ct.enter [(0, keyV key), (1, strV info), (2, .int .i64 n)] Try.func68 rfl rfl rfl rfl ?_
  refine C.seq ?_
  refine C.region ?_
  refine W.box (key.map byteV) rfl rfl rfl ?_
  intro g3 w3 hg3 hX3 hB3
  have hl3 := hB3.lt
  have hb3 : w.heap.size ≤ g3 := by omega
  refine W.assign rfl rfl ?_
  refine W.nil ?_
  refine At.thenCode ?_
  refine C.seq ?_
  refine C.seq ?_
  refine C.region ?_
  refine W.move rfl rfl ?_
  refine W.lssI rfl rfl rfl ?_
  refine W.move rfl rfl ?_
  first | refine W.splitD (fun g14 => ?_) (fun g14 => ?_) | refine W.splitB (fun g14 => ?_) (fun g14 => ?_)
  · refine W.skips rfl rfl rfl rfl rfl rfl ?_
    refine W.skips rfl rfl rfl rfl rfl rfl ?_
    refine W.pickT rfl rfl rfl ?_
    refine W.nil ?_
    refine At.thenCode ?_
    refine C.condT rfl ?_
    refine C.seq ?_
    refine C.region ?_
    refine W.assign rfl rfl ?_
    refine W.nil ?_
    refine At.thenCode ?_
    refine C.ret ?_
    refine At.thenRet ?_
    refine At.ret1 Try.results68 rfl ?_
    have e : expandV key info n = [] := by unfold expandV; rw [if_pos (by omega)]
    exact ⟨⟨none, 0, by rw [e]; rfl, by rw [e]; exact Sl.none _ 1, fun ad h => by cases h⟩, hX3⟩
  · refine W.wants rfl rfl rfl rfl ?_
    refine W.move rfl rfl ?_
    refine W.wants rfl rfl rfl rfl ?_
    refine W.gtrI rfl rfl rfl ?_
    refine W.pickF rfl rfl rfl ?_
    refine W.nil ?_
    refine At.thenCode ?_
    first | refine C.condD rfl (fun c17 => ?_) (fun c17 => ?_) | refine C.cond rfl (fun c17 => ?_) (fun c17 => ?_)
    · refine C.seq ?_
      refine C.region ?_
      refine W.assign rfl rfl ?_
      refine W.nil ?_
      refine At.thenCode ?_
      refine C.ret ?_
      refine At.thenRet ?_
      refine At.ret1 Try.results68 rfl ?_
      have e : expandV key info n = [] := by unfold expandV; rw [if_pos (by omega)]
      exact ⟨⟨none, 0, by rw [e]; rfl, by rw [e]; exact Sl.none _ 1, fun ad h => by cases h⟩, hX3⟩
    · refine C.skip ?_
      refine At.thenCode ?_
      refine C.seq ?_
      refine C.region ?_
      refine W.assign rfl rfl ?_
      refine W.assign rfl rfl ?_
      refine W.nil ?_
      refine At.thenCode ?_
      refine C.seq ?_
      refine C.seq ?_
      refine C.region ?_
      refine W.assign rfl rfl ?_
      refine W.nil ?_
      refine At.thenCode ?_
      refine C.block ?_
      refine C.loop (X := Nat × Value × Value) (fun x_ => [(1, strV info), (2, .int .i64 n), (3, .pointer (some ⟨g3, 0, none⟩)), (7, x_.2.1), (8, x_.2.2), (9, .int .i64 ((x_.1 + 1 : Nat) : Int))]) (fun x_ w1 => Ext w w1 ∧ 32 * (x_.1 : Int) < n + 32 ∧ Bk w1 g3 (key.map byteV) ∧ Rep w1 x_.2.2 (blkT key info x_.1) ∧ Ow w1 (g3 + 1) 5 x_.2.1 (outT key info x_.1)) (fun x_ => n.toNat + 32 - 32 * x_.1) (0, .slice none 0 0, .slice none 0 0) (Sub.cons (rfl) (Sub.cons (rfl) (Sub.cons (rfl) (Sub.cons (rfl) (Sub.cons (rfl) (Sub.cons (rfl) (Sub.nil))))))) ?start1 ?_
      case start1 =>
        show Ext w _ ∧ 32 * ((0) : Int) < n + 32 ∧ Bk _ g3 (key.map byteV) ∧ Rep _ (.slice none 0 0) (blkT key info (0)) ∧ Ow _ (g3 + 1) 5 (.slice none 0 0) (outT key info (0))
        exact ⟨hX3, by omega, hB3, ⟨none, 0, rfl, Sl.none _ 1⟩, Ow.nil _ _ _⟩
      rintro ⟨i, v, lv⟩ w1 hI_
      replace hI_ : Ext w w1 ∧ 32 * (i : Int) < n + 32 ∧ Bk w1 g3 (key.map byteV) ∧ Rep w1 lv (blkT key info i) ∧ Ow w1 (g3 + 1) 5 v (outT key info i) := hI_
      obtain ⟨hX1, hi, hB3, ⟨la, lc, hlv, hSl⟩, hO1⟩ := hI_
      refine C.weaken (l' := [(1, strV info), (2, .int .i64 n), (3, .pointer (some ⟨g3, 0, none⟩)), (7, v), (8, lv), (9, .int .i64 ((i + 1 : Nat) : Int))]) (Sub.cons (rfl) (Sub.cons (rfl) (Sub.cons (rfl) (Sub.cons (rfl) (Sub.cons (rfl) (Sub.cons (rfl) (Sub.nil))))))) ?_
      subst hlv
      obtain ⟨ao1, c1, rfl, hS1, hb1⟩ := ownsRow_form hO1
      have hol := outT_length key info i
      have hbl := blkT_length key info i
      have hlt3 := hB3.lt
      refine C.seq ?_
      refine C.seq ?_
      refine C.region ?_
      refine W.move rfl rfl ?_
      refine W.lenS rfl Try.underlying24 rfl ?_
      refine W.move rfl rfl ?_
      refine W.lssI rfl rfl rfl ?_
      refine W.nil ?_
      refine At.thenCode ?_
      first | refine C.condD rfl (fun c21 => ?_) (fun c21 => ?_) | refine C.cond rfl (fun c21 => ?_) (fun c21 => ?_)
      · refine C.skip ?_
        refine At.thenCode ?_
        refine C.seq ?_
        refine C.block ?_
        refine C.seq ?_
        refine C.region ?_
        refine W.move rfl rfl ?_
        refine W.appendB E8 Try.underlying24 rfl rfl (Ow.nil _ _ 5) hSl (by simp; omega) (Nat.le_refl _) rfl ?_
        rw [List.nil_append]
        intro v25 w25 ho25 hg25 _
        have hX25 : Ext w1 w25 := (Chg.of_grown hg25).mono fun k hk => by cases hk
        refine W.move rfl rfl ?_
        refine W.appendStr E8 Try.underlying24 Try.underlying9 rfl rfl ho25 (by omega) hX25.size rfl ?_
        intro v27 w27 ho27 hg27
        have hX27 : Ext w1 w27 := hX25.news (Chg.of_grown hg27) (fun k hk => Or.inr ((World.ownsRow.lt ho25 k hk.symm).1))
        refine W.move rfl rfl ?_
        refine W.convIU (M := 256) rfl Try.underlying3 Try.underlying5 rfl rfl rfl ?_
        refine W.eqv (v' := byteV (UInt8.ofNat (i + 1))) (by rw [byteV_ofNat]; unfold iu; first | (congr 2; done) | (congr 2; omega)) ?_
        refine W.litB [UInt8.ofNat (i + 1)] E8 Try.underlying24 rfl rfl rfl rfl rfl ?_
        intro g30 w30 hg30 hX30 _ hb30
        have ho30 := ownsRow_ext ho27 hX30
        refine W.appendB E8 Try.underlying24 rfl rfl ho30 hb30 (by rw [List.length_append, List.length_singleton]; omega) (by have := hX27.size; have := hX30.size; omega) rfl ?_
        intro v31 w31 ho31 hg31 _
        have hX31 : Ext w1 w31 := (hX27.ext hX30).news (Chg.of_grown hg31) (fun k hk => Or.inr ((World.ownsRow.lt ho30 k hk.symm).1))
        obtain ⟨ao31, c31, rfl, hS31, _⟩ := ownsRow_form ho31
        refine W.assign rfl rfl ?_
        refine W.nil ?_
        refine At.thenCode ?_
        refine C.seq ?_
        refine C.region ?_
        refine W.sliceA X8 Try.underlying23 rfl rfl ?_
        refine W.move rfl rfl ?_
        have hSk : Bs w31 (some ⟨g3, 0, none⟩) 32 key := by show Sl _ _ _ _ _ _; rw [hk]; exact (hB3.ext hX31).sl 1 (by rw [List.length_map, hk]) (by omega)
        have hmo := Mac.Of_ok (some ⟨g3, 0, none⟩) 32 key _ _ _ w31 hSk hS31 (by omega) (by simp only [List.length_append, List.length_singleton]; omega)
        rw [hk] at hmo
        refine W.call Try.call61 rfl hmo rfl ?_
        rintro v34 w34 ⟨rfl, hX34⟩
        obtain ⟨T, hT⟩ : ∃ T, T = blkT key info (i + 1) := ⟨_, rfl⟩
        have hTl : T.length = 32 := by rw [hT, blkT, macV_length]
        rw [show macV key (blkT key info i ++ info ++ [UInt8.ofNat (i + 1)]) = T from hT.symm]
        refine W.alloc (z := .agg (List.replicate 32 (byteV 0)).toArray) (List.replicate 32 (byteV 0)) (by kernel_rfl) rfl rfl ?_
        intro g11 w35 hg11 hX35 hB11
        refine W.storeA (T.map byteV) rfl rfl hB11 (by rw [List.length_map, hTl]; rfl) (by rw [List.length_map, hTl]; kernel_rfl) (bytes_oneCell _) ?_
        intro w36 hc36 hB11
        have hs31 := hX31.size
        have hs34 := hX34.size
        have hX36 : Ext w1 w36 := ((hX31.ext hX34).ext hX35).news hc36 (fun k hk => Or.inr (by omega))
        have hs36 := hX36.size
        refine W.nil ?_
        refine At.thenCode ?_
        refine C.seq ?_
        refine C.region ?_
        refine W.sliceA X8 Try.underlying23 rfl rfl ?_
        refine W.assign rfl rfl ?_
        refine W.nil ?_
        refine At.thenCode ?_
        refine C.region ?_
        refine W.move rfl rfl ?_
        refine W.move rfl rfl ?_
        have hS11 : Bs w36 (some ⟨g11, 0, none⟩) 32 T := by show Sl _ _ _ _ _ _; rw [hTl]; exact hB11.sl 1 (by rw [List.length_map, hTl]) (by omega)
        have hO36 := ownsRow_ext hO1 hX36
        refine W.appendB (ys := T) E8 Try.underlying24 rfl (look_eq rfl (by rw [hTl])) hO36 hS11 (by omega) (by omega) rfl ?_
        intro v38 w38 ho38 hg38 _
        have hc38 := Chg.of_grown hg38
        have hown : ∀ k, some k = (Value.slice ao1 (outT key info i).length c1).ownBlock → g3 < k ∧ k < g11 := fun k hk => by
          have h1 := (World.ownsRow.lt hO1 k hk.symm)
          omega
        have hX38 : Ext w w38 := (hX1.ext hX36).news hc38 (fun k hk => Or.inr (by have := hown k hk; omega))
        have hB3' := (hB3.ext hX36).chg hc38 (fun hk => by have := hown g3 hk; omega)
        have hB11' := hB11.chg hc38 (fun hk => by have := hown g11 hk; omega)
        refine W.assign rfl rfl ?_
        refine W.nil ?_
        refine At.blockNormal ?_
        refine At.thenCode ?_
        refine C.region ?_
        refine W.move rfl rfl ?_
        first | refine W.addI rfl rfl (by omega) rfl ?_ | refine W.addW rfl rfl rfl ?_
        refine W.assign rfl rfl ?_
        refine W.nil ?_
        refine At.thenRound (i + 1, v38, .slice (some ⟨g11, 0, none⟩) 32 32) (Sub.cons (rfl) (Sub.cons (rfl) (Sub.cons (rfl) (Sub.cons (rfl) (Sub.cons (rfl) (Sub.cons (look_eq rfl (by rw [show ((i + 1 : Nat) : Int) + 1 = ((i + 1 + 1 : Nat) : Int) by omega])) (Sub.nil))))))) (show Ext w _ ∧ 32 * ((i + 1) : Int) < n + 32 ∧ Bk _ g3 (key.map byteV) ∧ Rep _ (.slice (some ⟨g11, 0, none⟩) 32 32) (blkT key info (i + 1)) ∧ Ow _ (g3 + 1) 5 (v38) (outT key info (i + 1)) from ?_) (show n.toNat + 32 - 32 * (i + 1) < n.toNat + 32 - 32 * i from ?_)
        · refine ⟨hX38, by omega, hB3', ⟨some ⟨g11, 0, none⟩, 32, by rw [← hT, hTl], ?_⟩, ?_⟩
          · rw [← hT]; show Sl _ _ _ _ _ _; rw [hTl]; exact hB11'.sl 1 (by rw [List.length_map, hTl]) (by omega)
          · rw [outT, ← hT]; exact ho38
        · omega
      · have hnn : i = (n.toNat + 31) / 32 := by omega
        have hex : expandV key info n = (outT key info i).take n.toNat := by unfold expandV; rw [if_neg (by omega), ← hnn]
        refine C.exit ?_
        refine At.thenExit ?_
        refine At.thenExit ?_
        refine At.blockSelf ?_
        refine At.thenCode ?_
        refine C.seq ?_
        refine C.region ?_
        refine W.move rfl rfl ?_
        refine W.move rfl rfl ?_
        refine W.move rfl rfl ?_
        refine W.slice3 (m := n.toNat) E8 Try.underlying24 rfl hS1 (look_eq rfl (by rw [Int.toNat_of_nonneg (by omega)])) (look_eq rfl (by rw [Int.toNat_of_nonneg (by omega)])) (by omega) (by omega) rfl ?_
        intro hB42
        refine W.assign rfl rfl ?_
        refine W.nil ?_
        refine At.thenCode ?_
        refine C.ret ?_
        refine At.ret1 Try.results68 rfl ?_
        exact ⟨⟨ao1, n.toNat, by rw [hex], by rw [hex]; exact hB42, fun ad e => by have := hb1 ad e; omega⟩, hX1⟩
def keyD (secret name : List UInt8) : List UInt8 := expandV (macV (List.replicate 32 0) secret) name 32
theorem expand32_length (key info : List UInt8) : (expandV key info 32).length = 32 := by
  unfold expandV
  rw [if_neg (by omega), List.length_take, outT_length]
  rfl
theorem Key_ok (ao : Option Addr) (c : Nat) (secret name : List UInt8) (w : World) (hS : Bs w ao c secret) (hl : secret.length ≤ 900000) (hn : name.length ≤ 100000) :
    Ct Try.prog 41 #[.slice ao secret.length c, strV name] w (fun v w' => v = keyV (keyD secret name) ∧ Ext w w') := by
  refine Ct.enter [(0, .slice ao secret.length c), (1, strV name)] Try.func41 rfl rfl rfl rfl ?_
  refine C.seq ?_
  refine C.region ?_
  refine W.alloc (z := .agg (List.replicate 32 (byteV 0)).toArray) (List.replicate 32 (byteV 0)) (by kernel_rfl) rfl rfl ?_
  intro g4 w4 hg4 hX4 hB4
  have hl4 := hB4.lt
  refine W.nil ?_
  refine At.thenCode ?_
  refine C.seq ?_
  refine C.region ?_
  refine W.makeB (k := 32) E8 Try.underlying24 rfl rfl rfl rfl (by decide) (by decide) rfl ?_
  intro g6 w6 hg6 hX6 ho6
  refine W.move rfl rfl ?_
  have hS6 : Bs w6 (some ⟨g6, 0, none⟩) 32 (List.replicate 32 (0 : UInt8)) := own_sl ho6
  refine W.call Try.call61 rfl (Mac.Of_ok (some ⟨g6, 0, none⟩) 32 (List.replicate 32 0) _ _ _ w6 hS6 ((hS.ext hX4).ext hX6) (by decide) hl) rfl ?_
  rintro v8 w8 ⟨rfl, hX8⟩
  obtain ⟨K, hK⟩ : ∃ K, K = macV (List.replicate 32 0) secret := ⟨_, rfl⟩
  have hKl : K.length = 32 := by rw [hK]; exact macV_length _ _
  rw [← hK]
  refine W.alloc (z := .agg (List.replicate 32 (byteV 0)).toArray) (List.replicate 32 (byteV 0)) (by kernel_rfl) rfl rfl ?_
  intro g5 w9 hg5 hX9 hB5
  refine W.storeA (K.map byteV) rfl rfl hB5 (by rw [List.length_map, hKl]; rfl) (by rw [List.length_map, hKl]; kernel_rfl) (bytes_oneCell _) ?_
  intro w10 hc10 hB5
  have hs4 := hX4.size
  have hs6 := hX6.size
  have hs8 := hX8.size
  have hX10 : Ext w4 w10 := ((hX6.ext hX8).ext hX9).news hc10 (fun k hk => Or.inr (by omega))
  refine W.nil ?_
  refine At.thenCode ?_
  refine C.seq ?_
  refine C.region ?_
  refine W.loadA rfl (hB5.cells (o := 0)) Try.underlying23 rfl (by rw [List.drop_zero, List.length_map, hKl]; kernel_rfl) rfl ?_
  refine W.move rfl rfl ?_
  refine W.call Try.call68 rfl (Expand_ok K name 32 _ hKl (by decide) hn) rfl ?_
  rintro v11 w11 ⟨⟨ao11, c11, rfl, hS11, _⟩, hX11⟩
  have hel := expand32_length K name
  obtain ⟨E, hE⟩ : ∃ E, E = expandV K name 32 := ⟨_, rfl⟩
  rw [← hE] at hS11 hel ⊢
  refine W.arrayAt Try.underlying23 rfl (by omega) rfl ?_
  cases ao11 with
  | none => exfalso; have h1 := hS11.nil rfl; have h2 := hS11.le; omega
  | some ad2 =>
  refine W.loadA rfl (hS11.at_ ad2 rfl) Try.underlying23 rfl (by rw [List.length_map, hel]; kernel_rfl) rfl ?_
  refine W.storeA (E.map byteV) rfl rfl ((hB4.ext hX10).ext hX11) (by rw [List.length_map, hel]; rfl) (by rw [List.length_map, hel]; kernel_rfl) (bytes_oneCell _) ?_
  intro wz hcz hBz
  refine W.nil ?_
  refine At.thenCode ?_
  refine C.ret ?_
  -- RESULT IN A CELL
  refine At.retC Try.results41 rfl (hBz.cells (o := 0)) Try.underlying23 rfl (by rw [List.drop_zero, List.length_map, hel]; kernel_rfl) ⟨by rw [hE, hK]; rfl, ?_⟩
  exact ((hX4.ext hX10).ext hX11).news hcz (fun k hk => Or.inr (by omega))
theorem RExpand_ok (key info : List UInt8) (n : Int) (w : World) (hk : key.length = 32) (hn : -9223372036854775808 ≤ n ∧ n ≤ 9223372036854775807) (hil : info.length ≤ 100000) :
    Ct Try.prog 76 #[keyV key, strV info, .int .i64 n] w (fun v w' => (∃ ao c, v = .slice ao (expandV key info n).length c ∧ Bs w' ao c (expandV key info n) ∧ ∀ ad, ao = some ad → w.heap.size ≤ ad.block) ∧ Ext w w') := by
  refine Ct.enter [(0, keyV key), (1, strV info), (2, .int .i64 n)] Try.func76 rfl rfl rfl rfl ?_
  refine C.seq ?_
  refine C.region ?_
  refine W.box (key.map byteV) rfl rfl rfl ?_
  intro g3 w3 hg3 hX3 hB3
  have hl3 := hB3.lt
  have hb3 : w.heap.size ≤ g3 := by omega
  refine W.assign rfl rfl ?_
  refine W.nil ?_
  refine At.thenCode ?_
  refine C.seq ?_
  refine C.seq ?_
  refine C.region ?_
  refine W.move rfl rfl ?_
  refine W.lssI rfl rfl rfl ?_
  refine W.move rfl rfl ?_
  first | refine W.splitD (fun g14 => ?_) (fun g14 => ?_) | refine W.splitB (fun g14 => ?_) (fun g14 => ?_)
  · refine W.skips rfl rfl rfl rfl rfl rfl ?_
    refine W.skips rfl rfl rfl rfl rfl rfl ?_
    refine W.pickT rfl rfl rfl ?_
    refine W.nil ?_
    refine At.thenCode ?_
    refine C.condT rfl ?_
    refine C.seq ?_
    refine C.region ?_
    refine W.assign rfl rfl ?_
    refine W.nil ?_
    refine At.thenCode ?_
    refine C.ret ?_
    refine At.thenRet ?_
    refine At.ret1 Try.results76 rfl ?_
    have e : expandV key info n = [] := by unfold expandV; rw [if_pos (by omega)]
    exact ⟨⟨none, 0, by rw [e]; rfl, by rw [e]; exact Sl.none _ 1, fun ad h => by cases h⟩, hX3⟩
  · refine W.wants rfl rfl rfl rfl ?_
    refine W.move rfl rfl ?_
    refine W.wants rfl rfl rfl rfl ?_
    refine W.gtrI rfl rfl rfl ?_
    refine W.pickF rfl rfl rfl ?_
    refine W.nil ?_
    refine At.thenCode ?_
    first | refine C.condD rfl (fun c17 => ?_) (fun c17 => ?_) | refine C.cond rfl (fun c17 => ?_) (fun c17 => ?_)
    · refine C.seq ?_
      refine C.region ?_
      refine W.assign rfl rfl ?_
      refine W.nil ?_
      refine At.thenCode ?_
      refine C.ret ?_
      refine At.thenRet ?_
      refine At.ret1 Try.results76 rfl ?_
      have e : expandV key info n = [] := by unfold expandV; rw [if_pos (by omega)]
      exact ⟨⟨none, 0, by rw [e]; rfl, by rw [e]; exact Sl.none _ 1, fun ad h => by cases h⟩, hX3⟩
    · refine C.skip ?_
      refine At.thenCode ?_
      refine C.seq ?_
      refine C.region ?_
      refine W.assign rfl rfl ?_
      refine W.nil ?_
      refine At.thenCode ?_
      refine C.seq ?_
      refine C.region ?_
      refine W.assign rfl rfl ?_
      refine W.nil ?_
      refine At.thenCode ?_
      refine C.seq ?_
      refine C.seq ?_
      refine C.region ?_
      refine W.assign rfl rfl ?_
      refine W.nil ?_
      refine At.thenCode ?_
      refine C.block ?_
      refine C.loop (X := Nat × Value × Value) (fun x_ => [(1, strV info), (2, .int .i64 n), (3, .pointer (some ⟨g3, 0, none⟩)), (7, x_.2.1), (8, x_.2.2), (9, .int .i64 ((x_.1 + 1 : Nat) : Int))]) (fun x_ w1 => Ext w w1 ∧ 32 * (x_.1 : Int) < n + 32 ∧ Bk w1 g3 (key.map byteV) ∧ Rep w1 x_.2.2 (blkT key info x_.1) ∧ Ow w1 (g3 + 1) 5 x_.2.1 (outT key info x_.1)) (fun x_ => n.toNat + 32 - 32 * x_.1) (0, .slice none 0 0, .slice none 0 0) (Sub.cons (rfl) (Sub.cons (rfl) (Sub.cons (rfl) (Sub.cons (rfl) (Sub.cons (rfl) (Sub.cons (rfl) (Sub.nil))))))) ?start1 ?_
      case start1 =>
        show Ext w _ ∧ 32 * ((0) : Int) < n + 32 ∧ Bk _ g3 (key.map byteV) ∧ Rep _ (.slice none 0 0) (blkT key info (0)) ∧ Ow _ (g3 + 1) 5 (.slice none 0 0) (outT key info (0))
        exact ⟨hX3, by omega, hB3, ⟨none, 0, rfl, Sl.none _ 1⟩, Ow.nil _ _ _⟩
      rintro ⟨i, v, lv⟩ w1 hI_
      replace hI_ : Ext w w1 ∧ 32 * (i : Int) < n + 32 ∧ Bk w1 g3 (key.map byteV) ∧ Rep w1 lv (blkT key info i) ∧ Ow w1 (g3 + 1) 5 v (outT key info i) := hI_
      obtain ⟨hX1, hi, hB3, ⟨la, lc, hlv, hSl⟩, hO1⟩ := hI_
      refine C.weaken (l' := [(1, strV info), (2, .int .i64 n), (3, .pointer (some ⟨g3, 0, none⟩)), (7, v), (8, lv), (9, .int .i64 ((i + 1 : Nat) : Int))]) (Sub.cons (rfl) (Sub.cons (rfl) (Sub.cons (rfl) (Sub.cons (rfl) (Sub.cons (rfl) (Sub.cons (rfl) (Sub.nil))))))) ?_
      subst hlv
      obtain ⟨ao1, c1, rfl, hS1, hb1⟩ := ownsRow_form hO1
      have hol := outT_length key info i
      have hbl := blkT_length key info i
      have hlt3 := hB3.lt
      refine C.seq ?_
      refine C.seq ?_
      refine C.region ?_
      refine W.move rfl rfl ?_
      refine W.lenS rfl Try.underlying24 rfl ?_
      refine W.move rfl rfl ?_
      refine W.lssI rfl rfl rfl ?_
      refine W.nil ?_
      refine At.thenCode ?_
      first | refine C.condD rfl (fun c21 => ?_) (fun c21 => ?_) | refine C.cond rfl (fun c21 => ?_) (fun c21 => ?_)
      · refine C.skip ?_
        refine At.thenCode ?_
        refine C.seq ?_
        refine C.block ?_
        refine C.seq ?_
        refine C.region ?_
        refine W.move rfl rfl ?_
        refine W.appendB E8 Try.underlying24 rfl rfl (Ow.nil _ w1.heap.size 5) hSl (by simp; omega) (Nat.le_refl _) rfl ?_
        rw [List.nil_append]
        intro v25 w25 ho25 hg25 _
        have hX25 : Ext w1 w25 := (Chg.of_grown hg25).mono fun k hk => by cases hk
        refine W.move rfl rfl ?_
        refine W.appendStr E8 Try.underlying24 Try.underlying9 rfl rfl ho25 (by omega) hX25.size rfl ?_
        intro v27 w27 ho27 hg27
        have hX27 : Ext w1 w27 := hX25.news (Chg.of_grown hg27) (fun k hk => Or.inr ((World.ownsRow.lt ho25 k hk.symm).1))
        obtain ⟨y, hy⟩ : ∃ y, y = UInt8.ofNat (i + 1) := ⟨_, rfl⟩
        have hs27 := hX27.size
        have hown27 : ∀ k, v27.ownBlock = some k → w1.heap.size ≤ k ∧ k < w27.heap.size := fun k hk => World.ownsRow.lt ho27 k hk
        obtain ⟨T, hT⟩ : ∃ T, T = blkT key info (i + 1) := ⟨_, rfl⟩
        have hTl : T.length = 32 := by rw [hT, blkT, macV_length]
        have hTe : macV key (blkT key info i ++ info ++ [y]) = T := by rw [hT, hy]; rfl
        have hB27 := hB3.ext hX27
        have hg27' : ∀ k, v27.ownBlock = some k → ¬ k = g3 := fun k hk => by have := hown27 k hk; omega
        refine W.assign rfl rfl ?_
        refine W.nil ?_
        refine At.thenCode ?_
        refine C.seq ?_
        refine C.regionAnyG (GP w27.heap.size 5 1 1000000000 (fun k => v27.ownBlock = some k) ((blkT key info i ++ info ++ [y]).map byteV)) (GP.trans) (GP.ext) 9 ((fun v w => v = .slice (some ⟨g3, 0, none⟩) 32 32) :: (fun v w => v = v27) :: (fun v w => v = .int .i64 ((i + 1 : Nat) : Int)) :: (fun v w => v = .int .i64 (((i + 1 : Nat) : Int) % (2 ^ 8 : Nat))) :: (fun v w => v = byteV y) :: (fun v w => ∃ g, v = .slice (some ⟨g, 0, none⟩) 1 1 ∧ Ow w w27.heap.size 5 v [y]) :: (fun v w => Ow w w1.heap.size 5 v (blkT key info i ++ info ++ [y])) :: (fun v w => v = keyV T) :: (fun v w => ∃ g, v = .pointer (some ⟨g, 0, none⟩) ∧ w27.heap.size ≤ g ∧ w.heap[g]? = some (.cells (List.replicate 32 (byteV 0)).toArray 23 (0, 0))) :: []) [(3, .pointer (some ⟨g3, 0, none⟩)), (9, .int .i64 ((i + 1 : Nat) : Int)), (10, v27), (1, strV info), (2, .int .i64 n), (7, .slice ao1 (outT key info i).length c1)] [] (Sub.cons (rfl) (Sub.cons (rfl) (Sub.cons (rfl) (Sub.cons (rfl) (Sub.cons (rfl) (Sub.cons (rfl) (Sub.nil))))))) (Sub.nil) (Sub.cons (rfl) (Sub.cons (rfl) (Sub.cons (rfl) (Sub.cons (rfl) (Sub.cons (rfl) (Sub.cons (rfl) (Sub.nil))))))) (by kernel_rfl) rfl rfl rfl (And.intro (fun _ _ _ h _ => h) (And.intro (fun _ _ _ h _ => h) (And.intro (fun _ _ _ h _ => h) (And.intro (fun _ _ _ h _ => h) (And.intro (fun _ _ _ h _ => h) (And.intro (fun v _ _ ⟨g, hv, ho⟩ gp => ⟨g, hv, by subst hv; exact GP.lit gp ho (by decide) (fun hc => by have h1 := (World.ownsRow.lt ho g rfl).1; have h2 := hown27 g hc; omega)⟩) (And.intro (fun _ _ _ ho gp => GP.rowB gp ho (List.prefix_refl _)) (And.intro (fun _ _ _ h _ => h) (And.intro (fun _ _ _ ⟨g, hv, hg, hb⟩ gp => ⟨g, hv, hg, GP.bk gp hb (by decide) (fun hc => by have := hown27 g hc; omega)⟩) (trivial)))))))))) ?_ ?_
        · refine And.intro ?_ ?_
          · intro L_ w28 hX_ hs_ hf_ hd_
            refine W.step [(3, _)] (Sub.cons (hs_ _ _ rfl) (Sub.refl _)) ?_
            refine W.sliceA X8 Try.underlying23 rfl rfl ?_
            refine W.nil ?_
            exact At.step ((GP.ext) _ _ (Ext.refl _)) rfl
          refine And.intro ?_ ?_
          · intro L_ w28 hX_ hs_ hf_ hd_
            refine W.step [(10, _)] (Sub.cons (hs_ _ _ rfl) (Sub.refl _)) ?_
            refine W.move rfl rfl ?_
            refine W.nil ?_
            exact At.step ((GP.ext) _ _ (Ext.refl _)) rfl
          refine And.intro ?_ ?_
          · intro L_ w28 hX_ hs_ hf_ hd_
            refine W.step [(9, _)] (Sub.cons (hs_ _ _ rfl) (Sub.refl _)) ?_
            refine W.move rfl rfl ?_
            refine W.nil ?_
            exact At.step ((GP.ext) _ _ (Ext.refl _)) rfl
          refine And.intro ?_ ?_
          · intro L_ w28 hX_ hs_ hf_ hd_
            obtain ⟨v2, e2, r2⟩ := hd_ 2 rfl
            obtain rfl : (.int .i64 ((i + 1 : Nat) : Int) : Value) = v2 := Eq.symm r2
            refine W.step [(30, _)] (Sub.cons (e2 _ rfl) (Sub.refl _)) ?_
            refine W.maskI 8 rfl rfl rfl (by omega) rfl ?_
            refine W.nil ?_
            exact At.step ((GP.ext) _ _ (Ext.refl _)) rfl
          refine And.intro ?_ ?_
          · intro L_ w28 hX_ hs_ hf_ hd_
            obtain ⟨v3, e3, r3⟩ := hd_ 3 rfl
            obtain rfl : (.int .i64 (((i + 1 : Nat) : Int) % (2 ^ 8 : Nat)) : Value) = v3 := Eq.symm r3
            refine W.step [(31, _)] (Sub.cons (e3 _ rfl) (Sub.refl _)) ?_
            refine W.convIU (M := 256) rfl Try.underlying3 Try.underlying5 rfl rfl rfl ?_
            refine W.eqv (v' := byteV y) (by rw [hy, byteV_ofNat]; unfold iu; congr 2; omega) ?_
            refine W.nil ?_
            exact At.step ((GP.ext) _ _ (Ext.refl _)) rfl
          refine And.intro ?_ ?_
          · intro L_ w28 hX_ hs_ hf_ hd_
            obtain ⟨v4, e4, r4⟩ := hd_ 4 rfl
            obtain rfl : (byteV y : Value) = v4 := Eq.symm r4
            refine W.step [(32, _)] (Sub.cons (e4 _ rfl) (Sub.refl _)) ?_
            refine W.litB [y] E8 Try.underlying24 rfl rfl rfl rfl rfl ?_
            intro g33 w33 hg33 hX33 ho33 hb33
            refine W.nil ?_
            exact At.step (GP.ext _ _ hX33) ⟨g33, rfl, ownsRow_base ho33 hX_.size⟩
          refine And.intro ?_ ?_
          · intro L_ w28 hX_ hs_ hf_ hd_
            obtain ⟨v1, e1, r1⟩ := hd_ 1 rfl
            obtain rfl : (v27 : Value) = v1 := Eq.symm r1
            obtain ⟨v5, e5, r5⟩ := hd_ 5 rfl
            obtain ⟨g5, rfl, ho5⟩ := r5
            refine W.step [(29, _), (33, _)] (Sub.cons (e1 _ rfl) (Sub.cons (e5 _ rfl) (Sub.refl _))) ?_
            have hoL : Ow w28 w1.heap.size 5 v27 (blkT key info i ++ info) := GP.rowB hX_ ho27 (List.prefix_append _ _)
            obtain ⟨_, _, he5, hs5, _⟩ := ownsRow_form ho5
            injection he5 with he5a he5b he5c
            subst he5a; subst he5c
            refine W.appendGB (ys := [y]) E8 Try.underlying24 rfl rfl hoL hs5 (by rw [List.length_append, List.length_singleton]; omega) (by have := hX_.size; omega) rfl ?_
            intro v34 w34 ho34 hg34
            refine W.nil ?_
            exact At.step (GP.grewB hg34 hoL (List.prefix_refl _) (fun k hk => Or.inl hk)) ho34
          refine And.intro ?_ ?_
          · intro L_ w28 hX_ hs_ hf_ hd_
            obtain ⟨v0, e0, r0⟩ := hd_ 0 rfl
            obtain rfl : (.slice (some ⟨g3, 0, none⟩) 32 32 : Value) = v0 := Eq.symm r0
            obtain ⟨v6, e6, r6⟩ := hd_ 6 rfl
            refine W.step [(28, _), (34, _)] (Sub.cons (e0 _ rfl) (Sub.cons (e6 _ rfl) (Sub.refl _))) ?_
            obtain ⟨ao34, c34, rfl, hS34, _⟩ := ownsRow_form r6
            have hBL : Bk w28 g3 (key.map byteV) := GP.bkOld hX_ hB27 (by omega) (fun hc => hg27' _ hc rfl)
            have hSk : Bs w28 (some ⟨g3, 0, none⟩) 32 key := by show Sl _ _ _ _ _ _; rw [hk]; exact hBL.sl 1 (by rw [List.length_map, hk]) (by omega)
            have hmo := Mac.RMac_ok (some ⟨g3, 0, none⟩) 32 key _ _ _ w28 hSk hS34 (by omega) (by simp only [List.length_append, List.length_singleton]; omega)
            rw [hk] at hmo
            refine W.call Try.call62 rfl hmo rfl ?_
            rintro v35 w35 ⟨rfl, hX35⟩
            rw [hTe]
            refine W.nil ?_
            exact At.step (GP.ext _ _ hX35) rfl
          refine And.intro ?_ ?_
          · intro L_ w28 hX_ hs_ hf_ hd_
            refine W.step [] (Sub.refl _) ?_
            refine W.allocT (z := .agg (List.replicate 32 (byteV 0)).toArray) (List.replicate 32 (byteV 0)) (by kernel_rfl) rfl rfl ?_
            intro g11 w11 hg11 hX11 hB11
            refine W.nil ?_
            exact At.step (GP.ext _ _ hX11) ⟨g11, rfl, by have := hX_.size; omega, hB11⟩
          exact trivial
        · intro L_ w28 hX9 hs_ hv_
          obtain ⟨v8, e8, r8⟩ := hv_ 8 (by decide)
          obtain ⟨g11, rfl, hn11, hB11⟩ := r8
          obtain ⟨v7, e7, r7⟩ := hv_ 7 (by decide)
          obtain rfl : (keyV T : Value) = v7 := Eq.symm r7
          refine W.weaken (l' := [(11, _), (35, _), (3, _), (9, _), (10, _), (1, _), (2, _), (7, _)]) (Sub.cons (e8 _ rfl) (Sub.cons (e7 _ rfl) (Sub.cons (hs_ _ _ rfl) (Sub.cons (hs_ _ _ rfl) (Sub.cons (hs_ _ _ rfl) (Sub.cons (hs_ _ _ rfl) (Sub.cons (hs_ _ _ rfl) (Sub.cons (hs_ _ _ rfl) (Sub.nil))))))))) ?_
          have hc9 := hX9.chg (Nat.le_refl _)
          refine W.storeA (T.map byteV) rfl rfl ⟨_, hB11⟩ (by rw [List.length_map, hTl]; rfl) (by rw [List.length_map, hTl]; kernel_rfl) (bytes_oneCell _) ?_
          intro w36 hc36 hB11
          have hX36 : Ext w1 w36 := (hX27.news hc9 (fun k hk => Or.inr (hown27 k hk).1)).news hc36 (fun k hk => Or.inr (by omega))
          have hs36 := hX36.size
          refine W.nil ?_
          refine At.thenCode ?_
          refine C.seq ?_
          refine C.region ?_
          refine W.sliceA X8 Try.underlying23 rfl rfl ?_
          have hS11 : Bs w36 (some ⟨g11, 0, none⟩) 32 T := by show Sl _ _ _ _ _ _; rw [hTl]; exact hB11.sl 1 (by rw [List.length_map, hTl]) (by omega)
          refine W.appendB (ys := T) E8 Try.underlying24 rfl (look_eq rfl (by rw [hTl])) (Ow.nil _ w1.heap.size 5) hS11 (by simp; omega) hs36 rfl ?_
          rw [List.nil_append]
          intro v37 w37 ho37 hg37 _
          have hX37 : Ext w1 w37 := hX36.ext ((Chg.of_grown hg37).mono fun k hk => by cases hk)
          obtain ⟨ao37, c37, rfl, hS37, hb37⟩ := ownsRow_form ho37
          have hs37 := hX37.size
          refine W.assign rfl rfl ?_
          refine W.nil ?_
          refine At.thenCode ?_
          refine C.region ?_
          refine W.move rfl rfl ?_
          refine W.move rfl rfl ?_
          have hO37 := ownsRow_ext hO1 hX37
          refine W.appendB (ys := T) E8 Try.underlying24 rfl rfl hO37 hS37 (by omega) (by omega) rfl ?_
          intro v40 w40 ho40 hg40 _
          have hc40 := Chg.of_grown hg40
          have hown : ∀ k, some k = (Value.slice ao1 (outT key info i).length c1).ownBlock → g3 < k ∧ k < w1.heap.size := fun k hk => by
            have h1 := (World.ownsRow.lt hO1 k hk.symm)
            omega
          have hX40 : Ext w w40 := (hX1.ext hX37).news hc40 (fun k hk => Or.inr (by have := hown k hk; omega))
          have hB40 := (hB3.ext hX37).chg hc40 (fun hk => by have := hown g3 hk; omega)
          have hS40 : Bs w40 ao37 c37 T := Sl.chg hS37 hc40 (fun ad e _ hk => by have := hown _ hk; have := hb37 ad e; omega)
          refine W.assign rfl rfl ?_
          refine W.nil ?_
          refine At.blockNormal ?_
          refine At.thenCode ?_
          refine C.region ?_
          refine W.move rfl rfl ?_
          first | refine W.addI rfl rfl (by omega) rfl ?_ | refine W.addW rfl rfl rfl ?_
          refine W.assign rfl rfl ?_
          refine W.nil ?_
          refine At.thenRound (i + 1, v40, .slice ao37 T.length c37) (Sub.cons (rfl) (Sub.cons (rfl) (Sub.cons (rfl) (Sub.cons (rfl) (Sub.cons (rfl) (Sub.cons (look_eq rfl (by rw [show ((i + 1 : Nat) : Int) + 1 = ((i + 1 + 1 : Nat) : Int) by omega])) (Sub.nil))))))) (show Ext w _ ∧ 32 * ((i + 1) : Int) < n + 32 ∧ Bk _ g3 (key.map byteV) ∧ Rep _ (.slice ao37 T.length c37) (blkT key info (i + 1)) ∧ Ow _ (g3 + 1) 5 (v40) (outT key info (i + 1)) from ?_) (show n.toNat + 32 - 32 * (i + 1) < n.toNat + 32 - 32 * i from ?_)
          · refine ⟨hX40, by omega, hB40, ⟨ao37, c37, by rw [← hT], by rw [← hT]; exact hS40⟩, ?_⟩
            rw [outT, ← hT]; exact ho40
          · omega
      · have hnn : i = (n.toNat + 31) / 32 := by omega
        have hex : expandV key info n = (outT key info i).take n.toNat := by unfold expandV; rw [if_neg (by omega), ← hnn]
        refine C.exit ?_
        refine At.thenExit ?_
        refine At.thenExit ?_
        refine At.blockSelf ?_
        refine At.thenCode ?_
        refine C.seq ?_
        refine C.region ?_
        refine W.move rfl rfl ?_
        refine W.move rfl rfl ?_
        have hS1' : Sl w1 ao1 (outT key info i).length c1 1 ((outT key info i).map byteV) := hS1
        refine W.slice (lo := 0) (hi := n.toNat) E8 Try.underlying24 rfl hS1' (.inl ⟨rfl, rfl⟩) (.inr ⟨_, .i64, rfl, look_eq rfl (by rw [Int.toNat_of_nonneg (by omega)])⟩) (by omega) (by omega) rfl ?_
        intro ao43 c43 hS43 _
        have hl43 : ((outT key info i).take n.toNat).length = n.toNat - 0 := by rw [List.length_take]; omega
        have hS43' : Bs w1 ao43 c43 ((outT key info i).take n.toNat) := by
          show Sl _ _ _ _ _ _
          rw [hl43, List.map_take]
          simpa using hS43
        refine W.appendB (ys := (outT key info i).take n.toNat) E8 Try.underlying24 rfl (look_eq rfl (by rw [hl43])) (Ow.nil _ w1.heap.size 5) hS43' (by simp; omega) (Nat.le_refl _) rfl ?_
        rw [List.nil_append]
        intro v44 w44 ho44 hg44 _
        have hX44 : Ext w1 w44 := (Chg.of_grown hg44).mono fun k hk => by cases hk
        obtain ⟨ao44, c44, rfl, hS44, hb44⟩ := ownsRow_form ho44
        refine W.assign rfl rfl ?_
        refine W.nil ?_
        refine At.thenCode ?_
        refine C.ret ?_
        refine At.ret1 Try.results76 rfl ?_
        exact ⟨⟨ao44, c44, by rw [hex], by rw [hex]; exact hS44, fun ad e => by have := hb44 ad e; have := hX1.size; omega⟩, hX1.ext hX44⟩
theorem RKey_ok (ao : Option Addr) (c : Nat) (secret name : List UInt8) (w : World) (hS : Bs w ao c secret) (hl : secret.length ≤ 900000) (hn : name.length ≤ 100000) :
    Ct Try.prog 52 #[.slice ao secret.length c, strV name] w (fun v w' => v = keyV (keyD secret name) ∧ Ext w w') := by
  refine Ct.enter [(0, .slice ao secret.length c), (1, strV name)] Try.func52 rfl rfl rfl rfl ?_
  refine C.seq ?_
  refine C.region ?_
  refine W.alloc (z := .agg (List.replicate 32 (byteV 0)).toArray) (List.replicate 32 (byteV 0)) (by kernel_rfl) rfl rfl ?_
  intro g4 w4 hg4 hX4 hB4
  have hl4 := hB4.lt
  refine W.nil ?_
  refine At.thenCode ?_
  refine C.seq ?_
  refine C.region ?_
  refine W.alloc (z := .agg (List.replicate 32 (byteV 0)).toArray) (List.replicate 32 (byteV 0)) (by kernel_rfl) rfl rfl ?_
  intro g5 w5 hg5 hX5 hB5
  refine W.alloc (z := .agg (List.replicate 32 (byteV 0)).toArray) (List.replicate 32 (byteV 0)) (by kernel_rfl) rfl rfl ?_
  intro g6 w6 hg6 hX6 hB6
  have hs4 := hX4.size
  have hs5 := hX5.size
  have hs6 := hX6.size
  have hl5 := hB5.lt
  have hl6 := hB6.lt
  refine W.nil ?_
  refine At.thenCode ?_
  refine C.seq ?_
  refine C.region ?_
  refine W.sliceA X8 Try.underlying23 rfl rfl ?_
  refine W.move rfl rfl ?_
  have hS5 : Bs w6 (some ⟨g5, 0, none⟩) 32 (List.replicate 32 (0 : UInt8)) := (hB5.ext hX6).sl 1 (by simp) (by simp)
  refine W.call Try.call62 rfl (Mac.RMac_ok (some ⟨g5, 0, none⟩) 32 (List.replicate 32 0) _ _ _ w6 hS5 (((hS.ext hX4).ext hX5).ext hX6) (by decide) hl) rfl ?_
  rintro v11 w11 ⟨rfl, hX11⟩
  obtain ⟨K, hK⟩ : ∃ K, K = macV (List.replicate 32 0) secret := ⟨_, rfl⟩
  have hKl : K.length = 32 := by rw [hK]; exact macV_length _ _
  rw [← hK]
  refine W.move rfl rfl ?_
  refine W.call Try.call76 rfl (RExpand_ok K name 32 _ hKl (by decide) hn) rfl ?_
  rintro v13 w13 ⟨⟨ao13, c13, rfl, hS13, hf13⟩, hX13⟩
  have hs11 := hX11.size
  have hel := expand32_length K name
  obtain ⟨E, hE⟩ : ∃ E, E = expandV K name 32 := ⟨_, rfl⟩
  rw [← hE] at hS13 hel ⊢
  have hX13' : Ext w w13 := (((hX4.ext hX5).ext hX6).ext hX11).ext hX13
  have hB4 := (((hB4.ext hX5).ext hX6).ext hX11).ext hX13
  have hB6 := (hB6.ext hX11).ext hX13
  have hB6' : Bk w13 g6 ((fillB E 32 0).map byteV) := by rw [fillB_zero]; simpa using hB6
  have hn : ∀ ad, ao13 = some ad → E.map byteV ≠ [] → ad.block < w13.heap.size := fun ad e hne => hS13.blk e hne
  refine W.assign rfl rfl ?_
  refine W.nil ?_
  refine At.thenCode ?_
  refine C.seq ?_
  refine C.seq ?_
  refine C.region ?_
  refine W.assign rfl rfl ?_
  refine W.nil ?_
  refine At.thenCode ?_
  refine C.block ?_
  refine C.loop (X := Nat) (fun x_ => [(0, .slice ao secret.length c), (4, .pointer (some ⟨g4, 0, none⟩)), (6, .pointer (some ⟨g6, 0, none⟩)), (7, .slice ao13 E.length c13), (8, .int .i64 (x_ : Int))]) (fun x_ w1 => Chg (fun k => k = g6) w13 w1 ∧ x_ ≤ 32 ∧ Bk w1 g6 ((fillB E 32 x_).map byteV)) (fun x_ => 32 - x_) (0) (Sub.cons (rfl) (Sub.cons (rfl) (Sub.cons (rfl) (Sub.cons (rfl) (Sub.cons (rfl) (Sub.nil)))))) ?start1 ?_
  case start1 =>
    show Chg (fun k => k = g6) w13 _ ∧ (0) ≤ 32 ∧ Bk _ g6 ((fillB E 32 (0)).map byteV)
    exact ⟨Chg.refl _ _, by omega, hB6'⟩
  rintro i w1 hI_
  replace hI_ : Chg (fun k => k = g6) w13 w1 ∧ i ≤ 32 ∧ Bk w1 g6 ((fillB E 32 i).map byteV) := hI_
  obtain ⟨hc1, hi, hB6⟩ := hI_
  refine C.weaken (l' := [(0, .slice ao secret.length c), (4, .pointer (some ⟨g4, 0, none⟩)), (6, .pointer (some ⟨g6, 0, none⟩)), (7, .slice ao13 E.length c13), (8, .int .i64 (i : Int))]) (Sub.cons (rfl) (Sub.cons (rfl) (Sub.cons (rfl) (Sub.cons (rfl) (Sub.cons (rfl) (Sub.nil)))))) ?_
  refine C.seq ?_
  refine C.seq ?_
  refine C.region ?_
  refine W.move rfl rfl ?_
  refine W.lssI rfl rfl rfl ?_
  refine W.nil ?_
  refine At.thenCode ?_
  first | refine C.condD rfl (fun c15 => ?_) (fun c15 => ?_) | refine C.cond rfl (fun c15 => ?_) (fun c15 => ?_)
  · refine C.skip ?_
    refine At.thenCode ?_
    refine C.seq ?_
    refine C.block ?_
    refine C.region ?_
    refine W.move rfl rfl ?_
    refine W.move rfl rfl ?_
    refine W.move rfl rfl ?_
    have hlt : i < E.length := by omega
    cases hao : ao13 with
    | none => exfalso; have h1 := hS13.nil hao; have h2 := hS13.le; omega
    | some ad2 =>
    subst hao
    have hg6e : ¬ ad2.block = g6 := by have := hf13 ad2 rfl; omega
    have hS1 : Bs w1 (some ad2) c13 E := Sl.chg hS13 hc1 (fun ad e _ hk => by obtain rfl := Option.some.inj e; exact hg6e hk)
    refine W.idx (v := byteV (E[i]'hlt)) E8 Try.underlying24 Try.underlying5 rfl rfl hS1 rfl (by omega) (by rw [Int.toNat_natCast]; exact get_byte hlt) rfl rfl ?_
    intro p21
    -- read with the address
    refine W.indexA1 Words.X8 Try.underlying23 rfl rfl (by first | omega | decide) rfl ?_
    refine W.store1 rfl rfl rfl hB6 (by rw [List.length_map, fillB_length hel hi]; omega) (by kernel_rfl) ?_
    intro w7 hc7 hB7
    rw [fillB_setV hel (by omega)] at hB7
    refine W.nil ?_
    refine At.blockNormal ?_
    refine At.thenCode ?_
    refine C.region ?_
    refine W.move rfl rfl ?_
    first | refine W.addI rfl rfl (by omega) rfl ?_ | refine W.addW rfl rfl rfl ?_
    refine W.assign rfl rfl ?_
    refine W.nil ?_
    refine At.thenRound (i + 1) (Sub.cons (rfl) (Sub.cons (rfl) (Sub.cons (rfl) (Sub.cons (rfl) (Sub.cons (look_eq rfl (by rw [show (i : Int) + 1 = ((i + 1 : Nat) : Int) by omega])) (Sub.nil)))))) (show Chg (fun k => k = g6) w13 _ ∧ (i + 1) ≤ 32 ∧ Bk _ g6 ((fillB E 32 (i + 1)).map byteV) from ?_) (show 32 - (i + 1) < 32 - i from ?_)
    · exact ⟨hc1.trans hc7, by omega, hB7⟩
    · omega
  · obtain rfl : i = 32 := by omega
    rw [fillB_full hel] at hB6
    refine C.exit ?_
    refine At.thenExit ?_
    refine At.thenExit ?_
    refine At.blockSelf ?_
    refine At.thenCode ?_
    refine C.seq ?_
    refine C.region ?_
    refine W.loadA rfl (hB6.cells (o := 0)) Try.underlying23 rfl (by rw [List.drop_zero, List.length_map, hel]; kernel_rfl) rfl ?_
    have hB4 := hB4.chg hc1 (by omega)
    refine W.storeA (E.map byteV) rfl rfl hB4 (by rw [List.length_map, hel]; rfl) (by rw [List.length_map, hel]; kernel_rfl) (bytes_oneCell _) ?_
    intro wz hcz hBz
    refine W.nil ?_
    refine At.thenCode ?_
    refine C.ret ?_
    -- RESULT IN A CELL
    refine At.retC Try.results52 rfl (hBz.cells (o := 0)) Try.underlying23 rfl (by rw [List.drop_zero, List.length_map, hel]; kernel_rfl) ⟨by rw [hE, hK]; rfl, ?_⟩
    exact (hX13'.news hc1 (fun k hk => Or.inr (by omega))).news hcz (fun k hk => Or.inr (by omega))
end Go.Proofs.Ytkjmllohbohliaa.Derive
