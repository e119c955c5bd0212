/- Package seal and the reference's functions of chapter 5: streams, tags, sealing. -/
import Derived.Test.YtkjmllohbohliaaSeal
namespace Go.Proofs.Ytkjmllohbohliaa.Seal
open Go Go.RowKit Go.Proofs.Ytkjmllohbohliaa.KW Go.Proofs.Ytkjmllohbohliaa.Words Go.Proofs.Ytkjmllohbohliaa.Sha Go.Proofs.Ytkjmllohbohliaa.RSha Go.Proofs.Ytkjmllohbohliaa.Mac
set_option linter.unusedVariables false
set_option linter.unusedSimpArgs false
set_option maxRecDepth 100000

theorem stream_ok (key : List UInt8) (ao : Option Addr) (c : Nat) (b : List UInt8) (w : World) (hk : key.length = 32) (hS : Bs w ao c b) (hl : b.length ≤ 100000000) :
    Ct Try.prog 34 #[keyV key, .slice ao b.length c] w (fun v w' => Ow w' w.heap.size 5 v (turnV key b) ∧ Ext w w') := by
  refine Ct.enter [(0, keyV key), (1, .slice ao b.length c)] Try.func34 rfl rfl rfl rfl ?_
  obtain ⟨n, hn⟩ : ∃ n, n = b.length := ⟨_, rfl⟩
  refine C.seq ?_
  refine C.region ?_
  refine W.box (key.map byteV) rfl rfl rfl ?_
  intro g2 w2 hg2 hX2 hB2
  have hl2 := hB2.lt
  refine W.assign rfl rfl ?_
  refine W.nil ?_
  refine At.thenCode ?_
  refine C.seq ?_
  refine C.region ?_
  refine W.move rfl rfl ?_
  refine W.appendB E8 Try.underlying24 rfl rfl (Ow.nil _ w2.heap.size 5) (hS.ext hX2) (by simp; omega) (Nat.le_refl _) rfl ?_
  rw [List.nil_append]
  intro v10 w10 ho10 hg10 _
  have hX10 : Ext w2 w10 := (Chg.of_grown hg10).mono fun k hk => by cases hk
  obtain ⟨bo, cb, rfl, hhd⟩ := own_head ho10
  have hB10 := hB2.ext hX10
  have hs2 := hX2.size
  have ho10 : Ow w10 w.heap.size 5 (.slice bo b.length cb) (turnP key b 0) := by rw [turnP_zero]; exact ownsRow_base ho10 hs2
  have hhd : b ≠ [] → ∃ g, bo = some ⟨g, 0, none⟩ ∧ w.heap.size ≤ g ∧ g ≠ g2 ∧ g < w10.heap.size := fun h => by
    obtain ⟨g, h1, h2, h3⟩ := hhd h
    exact ⟨g, h1, by omega, by omega, h3⟩
  refine W.assign rfl rfl ?_
  refine W.nil ?_
  refine At.thenCode ?_
  refine C.seq ?_
  refine C.region ?_
  refine W.alloc (z := .agg (List.replicate 32 (byteV 0)).toArray) (List.replicate 32 (byteV 0)) (by kernel_rfl) rfl rfl ?_
  intro g6 w6 hg6 hX6 hB6
  have hlt10 := hB10.lt
  have hX06 := (hX2.ext hX10).ext hX6
  have hs10 := hX10.size
  refine W.nil ?_
  refine At.thenCode ?_
  refine C.seq ?_
  refine C.seq ?_
  refine C.region ?_
  refine W.assign rfl rfl ?_
  refine W.nil ?_
  refine At.thenCode ?_
  refine C.block ?_
  refine C.loop (X := Nat) (fun x_ => [(2, .pointer (some ⟨g2, 0, none⟩)), (5, .slice bo b.length cb), (6, .pointer (some ⟨g6, 0, none⟩)), (7, .int .i64 (x_ : Int))]) (fun x_ w1 => Ext w w1 ∧ x_ ≤ n ∧ Bk w1 g2 (key.map byteV) ∧ (∃ H : List UInt8, H.length = 32 ∧ Bk w1 g6 (H.map byteV) ∧ (0 < x_ → H = ksV key ((x_ - 1) / 32))) ∧ Ow w1 w.heap.size 5 (.slice bo b.length cb) (turnP key b x_)) (fun x_ => n - x_) (0) (Sub.cons (rfl) (Sub.cons (rfl) (Sub.cons (rfl) (Sub.cons (rfl) (Sub.nil))))) ?start1 ?_
  case start1 =>
    show Ext w _ ∧ (0) ≤ n ∧ Bk _ g2 (key.map byteV) ∧ (∃ H : List UInt8, H.length = 32 ∧ Bk _ g6 (H.map byteV) ∧ (0 < (0) → H = ksV key (((0) - 1) / 32))) ∧ Ow _ w.heap.size 5 (.slice bo b.length cb) (turnP key b (0))
    exact ⟨hX06, by omega, hB10.ext hX6, ⟨List.replicate 32 0, by simp, by simpa using hB6, fun h => by omega⟩, ownsRow_ext ho10 hX6⟩
  rintro i w1 hI_
  replace hI_ : Ext w w1 ∧ i ≤ n ∧ Bk w1 g2 (key.map byteV) ∧ (∃ H : List UInt8, H.length = 32 ∧ Bk w1 g6 (H.map byteV) ∧ (0 < i → H = ksV key ((i - 1) / 32))) ∧ Ow w1 w.heap.size 5 (.slice bo b.length cb) (turnP key b i) := hI_
  obtain ⟨hX1, hi, hB1, ⟨H, hHl, hBH, hHe⟩, hO1⟩ := hI_
  refine C.weaken (l' := [(2, .pointer (some ⟨g2, 0, none⟩)), (5, .slice bo b.length cb), (6, .pointer (some ⟨g6, 0, none⟩)), (7, .int .i64 (i : Int))]) (Sub.cons (rfl) (Sub.cons (rfl) (Sub.cons (rfl) (Sub.cons (rfl) (Sub.nil))))) ?_
  refine C.seq ?_
  refine C.seq ?_
  refine C.region ?_
  refine W.move rfl rfl ?_
  refine W.move rfl rfl ?_
  refine W.lenS rfl Try.underlying24 rfl ?_
  refine W.lssI rfl rfl rfl ?_
  refine W.nil ?_
  refine At.thenCode ?_
  first | refine C.condD rfl (fun c13 => ?_) (fun c13 => ?_) | refine C.cond rfl (fun c13 => ?_) (fun c13 => ?_)
  · have hin : i < b.length := by omega
    obtain ⟨gb, hgb, hgb1, hgb2, hgb3⟩ := hhd (by intro h; rw [h] at hin; simp at hin)
    rw [hgb] at hO1
    obtain ⟨K, hK⟩ : ∃ K, K = ksV key (i / 32) := ⟨_, rfl⟩
    have hKl : K.length = 32 := by rw [hK]; exact ksV_length _ _
    have hgg : g6 ≠ gb ∧ g6 ≠ g2 := by omega
    obtain ⟨j, hj⟩ : ∃ j, j = i / 32 := ⟨_, rfl⟩
    have htl := turnP_length key b i
    have hgt := turnP_at (key := key) (b := b) (i := i) hin
    have hpe : padV key i = K.getD (i % 32) 0 := by unfold padV; rw [hK]
    have hm32 : i % 32 < 32 := Nat.mod_lt _ (by decide)
    refine C.skip ?_
    refine At.thenCode ?_
    refine C.seq ?_
    refine C.block ?_
    refine C.seq ?_
    refine C.seq ?_
    refine C.region ?_
    refine W.move rfl rfl ?_
    first | refine W.remI rfl rfl (by omega) rfl ?_ | refine W.remW rfl rfl (by omega) rfl ?_
    refine W.eqv (v' := .int .i64 ((i % 32 : Nat) : Int)) (iV (by omega)) ?_
    refine W.eqlI rfl rfl rfl ?_
    refine W.nil ?_
    refine At.thenCode ?_
    first | refine C.condD rfl (fun c18 => ?_) (fun c18 => ?_) | refine C.cond rfl (fun c18 => ?_) (fun c18 => ?_)
    · refine C.regionAny 7 ((fun v w => v = .slice (some ⟨g2, 0, none⟩) 32 32) :: (fun v w => ∃ g, v = .slice (some ⟨g, 0, none⟩) 1 1 ∧ Bs w (some ⟨g, 0, none⟩) 1 [115]) :: (fun v w => v = .int .i64 (i : Int)) :: (fun v w => v = .int .i64 (j : Int)) :: (fun v w => v = .int .u64 (j : Int)) :: (fun v w => ∃ q c, v = .slice q ([115] ++ be64 j).length c ∧ Bs w q c ([115] ++ be64 j)) :: (fun v w => v = keyV K) :: []) [(2, .pointer (some ⟨g2, 0, none⟩)), (5, .slice (some ⟨gb, 0, none⟩) b.length cb), (6, .pointer (some ⟨g6, 0, none⟩)), (7, .int .i64 (i : Int))] [] (Sub.cons (rfl) (Sub.cons (look_eq rfl (by rw [hgb])) (Sub.cons (rfl) (Sub.cons (rfl) (Sub.nil))))) (Sub.nil) (Sub.cons (rfl) (Sub.cons (rfl) (Sub.cons (rfl) (Sub.cons (rfl) (Sub.nil))))) (by kernel_rfl) rfl rfl rfl (And.intro (fun _ _ _ h _ => h) (And.intro (fun _ _ _ ⟨g, hv, h⟩ x => ⟨g, hv, Sl.ext h x⟩) (And.intro (fun _ _ _ h _ => h) (And.intro (fun _ _ _ h _ => h) (And.intro (fun _ _ _ h _ => h) (And.intro (fun _ _ _ ⟨q, c, hv, h⟩ x => ⟨q, c, hv, Sl.ext h x⟩) (And.intro (fun _ _ _ h _ => h) (trivial)))))))) ?_ ?_
      · refine And.intro ?_ ?_
        · intro L_ w5 hX_ hs_ hf_ hd_
          refine W.step [(2, _)] (Sub.cons (hs_ _ _ rfl) (Sub.refl _)) ?_
          refine W.sliceA X8 Try.underlying23 rfl rfl ?_
          refine W.nil ?_
          exact At.step (Ext.refl _) rfl
        refine And.intro ?_ ?_
        · intro L_ w5 hX_ hs_ hf_ hd_
          refine W.step [] (Sub.refl _) ?_
          refine W.litB [115] E8 Try.underlying24 rfl rfl rfl rfl rfl ?_
          intro g20 w20 hg20 hX20 ho20 hb20
          refine W.nil ?_
          exact At.step hX20 ⟨g20, rfl, hb20⟩
        refine And.intro ?_ ?_
        · intro L_ w5 hX_ hs_ hf_ hd_
          refine W.step [(7, _)] (Sub.cons (hs_ _ _ rfl) (Sub.refl _)) ?_
          refine W.move rfl rfl ?_
          refine W.nil ?_
          exact At.step (Ext.refl _) rfl
        refine And.intro ?_ ?_
        · intro L_ w5 hX_ hs_ hf_ hd_
          obtain ⟨v2, e2, r2⟩ := hd_ 2 rfl
          obtain rfl : (.int .i64 (i : Int) : Value) = v2 := Eq.symm r2
          refine W.step [(21, _)] (Sub.cons (e2 _ rfl) (Sub.refl _)) ?_
          first | refine W.quoI rfl rfl (by omega) rfl ?_ | refine W.quoW rfl rfl (by omega) rfl ?_
          refine W.eqv (v' := .int .i64 (j : Int)) (iV (by omega)) ?_
          refine W.nil ?_
          exact At.step (Ext.refl _) rfl
        refine And.intro ?_ ?_
        · intro L_ w5 hX_ hs_ hf_ hd_
          obtain ⟨v3, e3, r3⟩ := hd_ 3 rfl
          obtain rfl : (.int .i64 (j : Int) : Value) = v3 := Eq.symm r3
          refine W.step [(22, _)] (Sub.cons (e3 _ rfl) (Sub.refl _)) ?_
          first | refine W.convIN (M := 18446744073709551616) rfl Try.underlying3 Try.underlying32 rfl rfl (by omega) rfl ?_ | refine W.convIU (M := 18446744073709551616) rfl Try.underlying3 Try.underlying32 rfl rfl rfl ?_
          refine W.eqv (v' := .int .u64 (j : Int)) (iV (by omega)) ?_
          refine W.nil ?_
          exact At.step (Ext.refl _) rfl
        refine And.intro ?_ ?_
        · intro L_ w5 hX_ hs_ hf_ hd_
          obtain ⟨v1, e1, r1⟩ := hd_ 1 rfl
          obtain ⟨g20, rfl, hS20⟩ := r1
          obtain ⟨v4, e4, r4⟩ := hd_ 4 rfl
          obtain rfl : (.int .u64 (j : Int) : Value) = v4 := Eq.symm r4
          refine W.step [(20, _), (23, _)] (Sub.cons (e1 _ rfl) (Sub.cons (e4 _ rfl) (Sub.refl _))) ?_
          refine W.call Try.call58 rfl (Words.RPut64_ok _ _ [115] j _ hS20 (by decide)) rfl ?_
          rintro v24 w24 ⟨ho24, hX24⟩
          obtain ⟨q24, c24, rfl, hS24, _⟩ := ownsRow_form ho24
          refine W.nil ?_
          exact At.step hX24 ⟨_, _, rfl, hS24⟩
        refine And.intro ?_ ?_
        · intro L_ w5 hX_ hs_ hf_ hd_
          obtain ⟨v0, e0, r0⟩ := hd_ 0 rfl
          obtain rfl : (.slice (some ⟨g2, 0, none⟩) 32 32 : Value) = v0 := Eq.symm r0
          obtain ⟨v5, e5, r5⟩ := hd_ 5 rfl
          obtain ⟨q24, c24, rfl, hS24⟩ := r5
          refine W.step [(19, _), (24, _)] (Sub.cons (e0 _ rfl) (Sub.cons (e5 _ rfl) (Sub.refl _))) ?_
          have hSk : Bs w5 (some ⟨g2, 0, none⟩) 32 key := by show Sl _ _ _ _ _ _; rw [hk]; exact (hB1.ext hX_).sl 1 (by rw [List.length_map, hk]) (by omega)
          have hmo := Mac.RMac_ok (some ⟨g2, 0, none⟩) 32 key _ _ _ w5 hSk hS24 (by omega) (by rw [List.length_append, be64_length]; decide)
          rw [hk] at hmo
          refine W.call Try.call62 rfl hmo rfl ?_
          rintro v25 w25 ⟨rfl, hX25⟩
          rw [show macV key ([115] ++ be64 j) = K from by rw [hK, ← hj]; rfl]
          refine W.nil ?_
          exact At.step hX25 rfl
        exact trivial
      · intro L_ w5 hX7 hs_ hv_
        obtain ⟨v6, e6, r6⟩ := hv_ 6 (by decide)
        obtain rfl : (keyV K : Value) = v6 := Eq.symm r6
        refine W.weaken (l' := [(25, _), (2, _), (5, _), (6, _), (7, _)]) (Sub.cons (e6 _ rfl) (Sub.cons (hs_ _ _ rfl) (Sub.cons (hs_ _ _ rfl) (Sub.cons (hs_ _ _ rfl) (Sub.cons (hs_ _ _ rfl) (Sub.nil)))))) ?_
        refine W.storeA (K.map byteV) rfl rfl (hBH.ext hX7) (by rw [List.length_map, List.length_map, hKl, hHl]) (by rw [List.length_map, hKl]; kernel_rfl) (bytes_oneCell _) ?_
        intro w6 hc6 hBK
        have hX16 : Ext w w6 := (hX1.ext hX7).news hc6 (fun k hk => Or.inr (by omega))
        have hO6 := ownsRow_chg (ownsRow_ext hO1 hX7) hc6 (fun k hk h => by obtain rfl := Option.some.inj hk; exact hgg.1 h.symm)
        have hB26 := (hB1.ext hX7).chg hc6 (fun h => hgg.2 h.symm)
        refine W.nil ?_
        refine At.thenCode ?_
        refine C.regionAny 11 ((fun v w => v = .slice (some ⟨gb, 0, none⟩) b.length cb) :: (fun v w => v = .int .i64 (i : Int)) :: (fun v w => v = .slice (some ⟨gb, 0, none⟩) b.length cb) :: (fun v w => v = .int .i64 (i : Int)) :: (fun v w => v = .pointer (some ⟨gb, i, none⟩)) :: (fun v w => v = byteV (b.getD i 0)) :: (fun v w => v = .int .i64 (i : Int)) :: (fun v w => v = .int .i64 ((i % 32 : Nat) : Int)) :: (fun v w => v = .pointer (some ⟨g6, (i % 32), none⟩)) :: (fun v w => v = byteV (K.getD (i % 32) 0)) :: (fun v w => v = byteV (b.getD i 0 ^^^ K.getD (i % 32) 0)) :: []) [(2, .pointer (some ⟨g2, 0, none⟩)), (5, .slice (some ⟨gb, 0, none⟩) b.length cb), (6, .pointer (some ⟨g6, 0, none⟩)), (7, .int .i64 (i : Int))] [] (Sub.cons (rfl) (Sub.cons (look_eq rfl (by first | rfl | rw [hgb])) (Sub.cons (rfl) (Sub.cons (rfl) (Sub.nil))))) (Sub.nil) (Sub.cons (rfl) (Sub.cons (rfl) (Sub.cons (rfl) (Sub.cons (rfl) (Sub.nil))))) (by kernel_rfl) rfl rfl rfl (And.intro (fun _ _ _ h _ => h) (And.intro (fun _ _ _ h _ => h) (And.intro (fun _ _ _ h _ => h) (And.intro (fun _ _ _ h _ => h) (And.intro (fun _ _ _ h _ => h) (And.intro (fun _ _ _ h _ => h) (And.intro (fun _ _ _ h _ => h) (And.intro (fun _ _ _ h _ => h) (And.intro (fun _ _ _ h _ => h) (And.intro (fun _ _ _ h _ => h) (And.intro (fun _ _ _ h _ => h) (trivial)))))))))))) ?_ ?_
        · refine And.intro ?_ ?_
          · intro L_ w9 hX_ hs_ hf_ hd_
            refine W.step [(5, _)] (Sub.cons (hs_ _ _ rfl) (Sub.refl _)) ?_
            refine W.move rfl rfl ?_
            refine W.nil ?_
            exact At.step (Ext.refl _) rfl
          refine And.intro ?_ ?_
          · intro L_ w9 hX_ hs_ hf_ hd_
            refine W.step [(7, _)] (Sub.cons (hs_ _ _ rfl) (Sub.refl _)) ?_
            refine W.move rfl rfl ?_
            refine W.nil ?_
            exact At.step (Ext.refl _) rfl
          refine And.intro ?_ ?_
          · intro L_ w9 hX_ hs_ hf_ hd_
            refine W.step [(5, _)] (Sub.cons (hs_ _ _ rfl) (Sub.refl _)) ?_
            refine W.move rfl rfl ?_
            refine W.nil ?_
            exact At.step (Ext.refl _) rfl
          refine And.intro ?_ ?_
          · intro L_ w9 hX_ hs_ hf_ hd_
            refine W.step [(7, _)] (Sub.cons (hs_ _ _ rfl) (Sub.refl _)) ?_
            refine W.move rfl rfl ?_
            refine W.nil ?_
            exact At.step (Ext.refl _) rfl
          refine And.intro ?_ ?_
          · intro L_ w9 hX_ hs_ hf_ hd_
            obtain ⟨v2, e2, r2⟩ := hd_ 2 rfl
            obtain rfl : (.slice (some ⟨gb, 0, none⟩) b.length cb : Value) = v2 := Eq.symm r2
            obtain ⟨v3, e3, r3⟩ := hd_ 3 rfl
            obtain rfl : (.int .i64 (i : Int) : Value) = v3 := Eq.symm r3
            refine W.step [(28, _), (29, _)] (Sub.cons (e2 _ rfl) (Sub.cons (e3 _ rfl) (Sub.refl _))) ?_
            have hS2 : Sl w9 (some ⟨gb, 0, none⟩) b.length cb 1 ((turnP key b i).map byteV) := (own_sl (cs := (turnP key b i).map byteV) (by have h := hO6; unfold Ow at h; rw [htl] at h; exact h)).ext hX_
            refine W.indexS (i := (i : Int)) E8 Try.underlying24 rfl hS2 rfl ⟨by omega, by omega⟩ rfl ?_
            intro ad36 _ had36 _
            obtain rfl : ad36 = ⟨gb, i, none⟩ := by rw [had36 _ rfl, add_mk, Int.toNat_natCast, Nat.zero_add, Nat.mul_one]
            refine W.nil ?_
            exact At.step (Ext.refl _) rfl
          refine And.intro ?_ ?_
          · intro L_ w9 hX_ hs_ hf_ hd_
            obtain ⟨v4, e4, r4⟩ := hd_ 4 rfl
            obtain rfl : (.pointer (some ⟨gb, i, none⟩) : Value) = v4 := Eq.symm r4
            refine W.step [(30, _)] (Sub.cons (e4 _ rfl) (Sub.refl _)) ?_
            have hS2 : Sl w9 (some ⟨gb, 0, none⟩) b.length cb 1 ((turnP key b i).map byteV) := (own_sl (cs := (turnP key b i).map byteV) (by have h := hO6; unfold Ow at h; rw [htl] at h; exact h)).ext hX_
            refine W.load (v := byteV (b.getD i 0)) rfl Try.underlying5 rfl (by
              have h := hS2.at_ _ rfl i (byteV (b.getD i 0)) (by rw [List.getElem?_map, hgt]; rfl)
              rwa [add_mk, Nat.zero_add] at h) rfl ?_
            refine W.nil ?_
            exact At.step (Ext.refl _) rfl
          refine And.intro ?_ ?_
          · intro L_ w9 hX_ hs_ hf_ hd_
            refine W.step [(7, _)] (Sub.cons (hs_ _ _ rfl) (Sub.refl _)) ?_
            refine W.move rfl rfl ?_
            refine W.nil ?_
            exact At.step (Ext.refl _) rfl
          refine And.intro ?_ ?_
          · intro L_ w9 hX_ hs_ hf_ hd_
            obtain ⟨v6, e6, r6⟩ := hd_ 6 rfl
            obtain rfl : (.int .i64 (i : Int) : Value) = v6 := Eq.symm r6
            refine W.step [(32, _)] (Sub.cons (e6 _ rfl) (Sub.refl _)) ?_
            first | refine W.remI rfl rfl (by omega) rfl ?_ | refine W.remW rfl rfl (by omega) rfl ?_
            refine W.eqv (v' := .int .i64 ((i % 32 : Nat) : Int)) (iV (by omega)) ?_
            refine W.nil ?_
            exact At.step (Ext.refl _) rfl
          refine And.intro ?_ ?_
          · intro L_ w9 hX_ hs_ hf_ hd_
            obtain ⟨v7, e7, r7⟩ := hd_ 7 rfl
            obtain rfl : (.int .i64 ((i % 32 : Nat) : Int) : Value) = v7 := Eq.symm r7
            refine W.step [(6, _), (33, _)] (Sub.cons (hs_ _ _ rfl) (Sub.cons (e7 _ rfl) (Sub.refl _))) ?_
            refine W.indexA1 (j := i % 32) X8 Try.underlying23 rfl rfl hm32 rfl ?_
            refine W.nil ?_
            exact At.step (Ext.refl _) rfl
          refine And.intro ?_ ?_
          · intro L_ w9 hX_ hs_ hf_ hd_
            obtain ⟨v8, e8, r8⟩ := hd_ 8 rfl
            obtain rfl : (.pointer (some ⟨g6, (i % 32), none⟩) : Value) = v8 := Eq.symm r8
            refine W.step [(34, _)] (Sub.cons (e8 _ rfl) (Sub.refl _)) ?_
            have hgk : (K.map byteV)[i % 32]? = some (byteV (K.getD (i % 32) 0)) := by rw [List.getElem?_map, List.getElem?_eq_getElem (by omega)]; simp [List.getD, show i % 32 < K.length by omega]
            refine W.loadB rfl Try.underlying5 rfl (hBK.ext hX_) hgk rfl ?_
            refine W.nil ?_
            exact At.step (Ext.refl _) rfl
          refine And.intro ?_ ?_
          · intro L_ w9 hX_ hs_ hf_ hd_
            obtain ⟨v5, e5, r5⟩ := hd_ 5 rfl
            obtain rfl : (byteV (b.getD i 0) : Value) = v5 := Eq.symm r5
            obtain ⟨v9, e9, r9⟩ := hd_ 9 rfl
            obtain rfl : (byteV (K.getD (i % 32) 0) : Value) = v9 := Eq.symm r9
            refine W.step [(31, _), (35, _)] (Sub.cons (e5 _ rfl) (Sub.cons (e9 _ rfl) (Sub.refl _))) ?_
            refine W.xorU (M := 256) (m := (b.getD i 0).toNat) (n := (K.getD (i % 32) 0).toNat) rfl rfl rfl rfl rfl ?_
            refine W.eqv (v' := byteV (b.getD i 0 ^^^ K.getD (i % 32) 0)) (xor_comm_ok _ _).symm ?_
            refine W.nil ?_
            exact At.step (Ext.refl _) rfl
          exact trivial
        · intro L_ w9 hX8 hs_ hv_
          obtain ⟨v0, e0, r0⟩ := hv_ 0 (by decide)
          obtain rfl : (.slice (some ⟨gb, 0, none⟩) b.length cb : Value) = v0 := Eq.symm r0
          obtain ⟨v1, e1, r1⟩ := hv_ 1 (by decide)
          obtain rfl : (.int .i64 (i : Int) : Value) = v1 := Eq.symm r1
          obtain ⟨v10, e10, r10⟩ := hv_ 10 (by decide)
          obtain rfl : (byteV (b.getD i 0 ^^^ K.getD (i % 32) 0) : Value) = v10 := Eq.symm r10
          refine W.weaken (l' := [(26, _), (27, _), (36, _), (2, _), (5, _), (6, _), (7, _)]) (Sub.cons (e0 _ rfl) (Sub.cons (e1 _ rfl) (Sub.cons (e10 _ rfl) (Sub.cons (hs_ _ _ rfl) (Sub.cons (hs_ _ _ rfl) (Sub.cons (hs_ _ _ rfl) (Sub.cons (hs_ _ _ rfl) (Sub.nil)))))))) ?_
          have hO9 := ownsRow_ext hO6 hX8
          have hS2 : Sl w9 (some ⟨gb, 0, none⟩) b.length cb 1 ((turnP key b i).map byteV) := own_sl (cs := (turnP key b i).map byteV) (by have h := hO9; unfold Ow at h; rw [htl] at h; exact h)
          refine W.indexS (i := (i : Int)) E8 Try.underlying24 rfl hS2 rfl ⟨by omega, by omega⟩ rfl ?_
          intro ad44 _ had44 _
          obtain rfl : ad44 = ⟨gb, i, none⟩ := by rw [had44 _ rfl, add_mk, Int.toNat_natCast, Nat.zero_add, Nat.mul_one]
          rw [htl] at hO9
          refine W.storeO rfl rfl rfl hO9 (by omega) (by kernel_rfl) ?_
          intro w10 hc10 hO10
          rw [← List.map_set, ← hpe, turnP_set hin] at hO10
          have hO10 : Ow w10 w.heap.size 5 (.slice (some ⟨gb, 0, none⟩) b.length cb) (turnP key b (i + 1)) := by
            show World.ownsRow _ _ _ _ _ _ _
            rw [turnP_length]; exact hO10
          refine W.nil ?_
          refine At.blockNormal ?_
          refine At.thenCode ?_
          refine C.region ?_
          refine W.move rfl rfl ?_
          first | refine W.addI rfl rfl (by omega) rfl ?_ | refine W.addW rfl rfl rfl ?_
          refine W.assign rfl rfl ?_
          refine W.nil ?_
          refine At.thenRound (i + 1) (Sub.cons (rfl) (Sub.cons (look_eq rfl (by rw [hgb])) (Sub.cons (rfl) (Sub.cons (look_eq rfl (iV (by omega))) (Sub.nil))))) (show Ext w _ ∧ (i + 1) ≤ n ∧ Bk _ g2 (key.map byteV) ∧ (∃ H : List UInt8, H.length = 32 ∧ Bk _ g6 (H.map byteV) ∧ (0 < (i + 1) → H = ksV key (((i + 1) - 1) / 32))) ∧ Ow _ w.heap.size 5 (.slice bo b.length cb) (turnP key b (i + 1)) from ?_) (show n - (i + 1) < n - i from ?_)
          · refine ⟨(hX16.ext hX8).news hc10 (fun q hq => Or.inr (by omega)), by omega, (hB26.ext hX8).chg hc10 (fun h => hgb2 h.symm), ⟨K, hKl, (hBK.ext hX8).chg hc10 hgg.1, fun _ => by rw [hK, Nat.add_sub_cancel]⟩, ?_⟩
            rw [hgb]; exact hO10
          · omega
    · have hHK : H = K := by rw [hHe (by omega), hK, show (i - 1) / 32 = i / 32 by omega]
      rw [hHK] at hBH
      have hBK := hBH
      have hX16 := hX1
      have hO6 := hO1
      have hB26 := hB1
      refine C.skip ?_
      refine At.thenCode ?_
      refine C.regionAny 11 ((fun v w => v = .slice (some ⟨gb, 0, none⟩) b.length cb) :: (fun v w => v = .int .i64 (i : Int)) :: (fun v w => v = .slice (some ⟨gb, 0, none⟩) b.length cb) :: (fun v w => v = .int .i64 (i : Int)) :: (fun v w => v = .pointer (some ⟨gb, i, none⟩)) :: (fun v w => v = byteV (b.getD i 0)) :: (fun v w => v = .int .i64 (i : Int)) :: (fun v w => v = .int .i64 ((i % 32 : Nat) : Int)) :: (fun v w => v = .pointer (some ⟨g6, (i % 32), none⟩)) :: (fun v w => v = byteV (K.getD (i % 32) 0)) :: (fun v w => v = byteV (b.getD i 0 ^^^ K.getD (i % 32) 0)) :: []) [(2, .pointer (some ⟨g2, 0, none⟩)), (5, .slice (some ⟨gb, 0, none⟩) b.length cb), (6, .pointer (some ⟨g6, 0, none⟩)), (7, .int .i64 (i : Int))] [] (Sub.cons (rfl) (Sub.cons (look_eq rfl (by first | rfl | rw [hgb])) (Sub.cons (rfl) (Sub.cons (rfl) (Sub.nil))))) (Sub.nil) (Sub.cons (rfl) (Sub.cons (rfl) (Sub.cons (rfl) (Sub.cons (rfl) (Sub.nil))))) (by kernel_rfl) rfl rfl rfl (And.intro (fun _ _ _ h _ => h) (And.intro (fun _ _ _ h _ => h) (And.intro (fun _ _ _ h _ => h) (And.intro (fun _ _ _ h _ => h) (And.intro (fun _ _ _ h _ => h) (And.intro (fun _ _ _ h _ => h) (And.intro (fun _ _ _ h _ => h) (And.intro (fun _ _ _ h _ => h) (And.intro (fun _ _ _ h _ => h) (And.intro (fun _ _ _ h _ => h) (And.intro (fun _ _ _ h _ => h) (trivial)))))))))))) ?_ ?_
      · refine And.intro ?_ ?_
        · intro L_ w9 hX_ hs_ hf_ hd_
          refine W.step [(5, _)] (Sub.cons (hs_ _ _ rfl) (Sub.refl _)) ?_
          refine W.move rfl rfl ?_
          refine W.nil ?_
          exact At.step (Ext.refl _) rfl
        refine And.intro ?_ ?_
        · intro L_ w9 hX_ hs_ hf_ hd_
          refine W.step [(7, _)] (Sub.cons (hs_ _ _ rfl) (Sub.refl _)) ?_
          refine W.move rfl rfl ?_
          refine W.nil ?_
          exact At.step (Ext.refl _) rfl
        refine And.intro ?_ ?_
        · intro L_ w9 hX_ hs_ hf_ hd_
          refine W.step [(5, _)] (Sub.cons (hs_ _ _ rfl) (Sub.refl _)) ?_
          refine W.move rfl rfl ?_
          refine W.nil ?_
          exact At.step (Ext.refl _) rfl
        refine And.intro ?_ ?_
        · intro L_ w9 hX_ hs_ hf_ hd_
          refine W.step [(7, _)] (Sub.cons (hs_ _ _ rfl) (Sub.refl _)) ?_
          refine W.move rfl rfl ?_
          refine W.nil ?_
          exact At.step (Ext.refl _) rfl
        refine And.intro ?_ ?_
        · intro L_ w9 hX_ hs_ hf_ hd_
          obtain ⟨v2, e2, r2⟩ := hd_ 2 rfl
          obtain rfl : (.slice (some ⟨gb, 0, none⟩) b.length cb : Value) = v2 := Eq.symm r2
          obtain ⟨v3, e3, r3⟩ := hd_ 3 rfl
          obtain rfl : (.int .i64 (i : Int) : Value) = v3 := Eq.symm r3
          refine W.step [(28, _), (29, _)] (Sub.cons (e2 _ rfl) (Sub.cons (e3 _ rfl) (Sub.refl _))) ?_
          have hS2 : Sl w9 (some ⟨gb, 0, none⟩) b.length cb 1 ((turnP key b i).map byteV) := (own_sl (cs := (turnP key b i).map byteV) (by have h := hO6; unfold Ow at h; rw [htl] at h; exact h)).ext hX_
          refine W.indexS (i := (i : Int)) E8 Try.underlying24 rfl hS2 rfl ⟨by omega, by omega⟩ rfl ?_
          intro ad36 _ had36 _
          obtain rfl : ad36 = ⟨gb, i, none⟩ := by rw [had36 _ rfl, add_mk, Int.toNat_natCast, Nat.zero_add, Nat.mul_one]
          refine W.nil ?_
          exact At.step (Ext.refl _) rfl
        refine And.intro ?_ ?_
        · intro L_ w9 hX_ hs_ hf_ hd_
          obtain ⟨v4, e4, r4⟩ := hd_ 4 rfl
          obtain rfl : (.pointer (some ⟨gb, i, none⟩) : Value) = v4 := Eq.symm r4
          refine W.step [(30, _)] (Sub.cons (e4 _ rfl) (Sub.refl _)) ?_
          have hS2 : Sl w9 (some ⟨gb, 0, none⟩) b.length cb 1 ((turnP key b i).map byteV) := (own_sl (cs := (turnP key b i).map byteV) (by have h := hO6; unfold Ow at h; rw [htl] at h; exact h)).ext hX_
          refine W.load (v := byteV (b.getD i 0)) rfl Try.underlying5 rfl (by
            have h := hS2.at_ _ rfl i (byteV (b.getD i 0)) (by rw [List.getElem?_map, hgt]; rfl)
            rwa [add_mk, Nat.zero_add] at h) rfl ?_
          refine W.nil ?_
          exact At.step (Ext.refl _) rfl
        refine And.intro ?_ ?_
        · intro L_ w9 hX_ hs_ hf_ hd_
          refine W.step [(7, _)] (Sub.cons (hs_ _ _ rfl) (Sub.refl _)) ?_
          refine W.move rfl rfl ?_
          refine W.nil ?_
          exact At.step (Ext.refl _) rfl
        refine And.intro ?_ ?_
        · intro L_ w9 hX_ hs_ hf_ hd_
          obtain ⟨v6, e6, r6⟩ := hd_ 6 rfl
          obtain rfl : (.int .i64 (i : Int) : Value) = v6 := Eq.symm r6
          refine W.step [(32, _)] (Sub.cons (e6 _ rfl) (Sub.refl _)) ?_
          first | refine W.remI rfl rfl (by omega) rfl ?_ | refine W.remW rfl rfl (by omega) rfl ?_
          refine W.eqv (v' := .int .i64 ((i % 32 : Nat) : Int)) (iV (by omega)) ?_
          refine W.nil ?_
          exact At.step (Ext.refl _) rfl
        refine And.intro ?_ ?_
        · intro L_ w9 hX_ hs_ hf_ hd_
          obtain ⟨v7, e7, r7⟩ := hd_ 7 rfl
          obtain rfl : (.int .i64 ((i % 32 : Nat) : Int) : Value) = v7 := Eq.symm r7
          refine W.step [(6, _), (33, _)] (Sub.cons (hs_ _ _ rfl) (Sub.cons (e7 _ rfl) (Sub.refl _))) ?_
          refine W.indexA1 (j := i % 32) X8 Try.underlying23 rfl rfl hm32 rfl ?_
          refine W.nil ?_
          exact At.step (Ext.refl _) rfl
        refine And.intro ?_ ?_
        · intro L_ w9 hX_ hs_ hf_ hd_
          obtain ⟨v8, e8, r8⟩ := hd_ 8 rfl
          obtain rfl : (.pointer (some ⟨g6, (i % 32), none⟩) : Value) = v8 := Eq.symm r8
          refine W.step [(34, _)] (Sub.cons (e8 _ rfl) (Sub.refl _)) ?_
          have hgk : (K.map byteV)[i % 32]? = some (byteV (K.getD (i % 32) 0)) := by rw [List.getElem?_map, List.getElem?_eq_getElem (by omega)]; simp [List.getD, show i % 32 < K.length by omega]
          refine W.loadB rfl Try.underlying5 rfl (hBK.ext hX_) hgk rfl ?_
          refine W.nil ?_
          exact At.step (Ext.refl _) rfl
        refine And.intro ?_ ?_
        · intro L_ w9 hX_ hs_ hf_ hd_
          obtain ⟨v5, e5, r5⟩ := hd_ 5 rfl
          obtain rfl : (byteV (b.getD i 0) : Value) = v5 := Eq.symm r5
          obtain ⟨v9, e9, r9⟩ := hd_ 9 rfl
          obtain rfl : (byteV (K.getD (i % 32) 0) : Value) = v9 := Eq.symm r9
          refine W.step [(31, _), (35, _)] (Sub.cons (e5 _ rfl) (Sub.cons (e9 _ rfl) (Sub.refl _))) ?_
          refine W.xorU (M := 256) (m := (b.getD i 0).toNat) (n := (K.getD (i % 32) 0).toNat) rfl rfl rfl rfl rfl ?_
          refine W.eqv (v' := byteV (b.getD i 0 ^^^ K.getD (i % 32) 0)) (xor_comm_ok _ _).symm ?_
          refine W.nil ?_
          exact At.step (Ext.refl _) rfl
        exact trivial
      · intro L_ w9 hX8 hs_ hv_
        obtain ⟨v0, e0, r0⟩ := hv_ 0 (by decide)
        obtain rfl : (.slice (some ⟨gb, 0, none⟩) b.length cb : Value) = v0 := Eq.symm r0
        obtain ⟨v1, e1, r1⟩ := hv_ 1 (by decide)
        obtain rfl : (.int .i64 (i : Int) : Value) = v1 := Eq.symm r1
        obtain ⟨v10, e10, r10⟩ := hv_ 10 (by decide)
        obtain rfl : (byteV (b.getD i 0 ^^^ K.getD (i % 32) 0) : Value) = v10 := Eq.symm r10
        refine W.weaken (l' := [(26, _), (27, _), (36, _), (2, _), (5, _), (6, _), (7, _)]) (Sub.cons (e0 _ rfl) (Sub.cons (e1 _ rfl) (Sub.cons (e10 _ rfl) (Sub.cons (hs_ _ _ rfl) (Sub.cons (hs_ _ _ rfl) (Sub.cons (hs_ _ _ rfl) (Sub.cons (hs_ _ _ rfl) (Sub.nil)))))))) ?_
        have hO9 := ownsRow_ext hO6 hX8
        have hS2 : Sl w9 (some ⟨gb, 0, none⟩) b.length cb 1 ((turnP key b i).map byteV) := own_sl (cs := (turnP key b i).map byteV) (by have h := hO9; unfold Ow at h; rw [htl] at h; exact h)
        refine W.indexS (i := (i : Int)) E8 Try.underlying24 rfl hS2 rfl ⟨by omega, by omega⟩ rfl ?_
        intro ad44 _ had44 _
        obtain rfl : ad44 = ⟨gb, i, none⟩ := by rw [had44 _ rfl, add_mk, Int.toNat_natCast, Nat.zero_add, Nat.mul_one]
        rw [htl] at hO9
        refine W.storeO rfl rfl rfl hO9 (by omega) (by kernel_rfl) ?_
        intro w10 hc10 hO10
        rw [← List.map_set, ← hpe, turnP_set hin] at hO10
        have hO10 : Ow w10 w.heap.size 5 (.slice (some ⟨gb, 0, none⟩) b.length cb) (turnP key b (i + 1)) := by
          show World.ownsRow _ _ _ _ _ _ _
          rw [turnP_length]; exact hO10
        refine W.nil ?_
        refine At.blockNormal ?_
        refine At.thenCode ?_
        refine C.region ?_
        refine W.move rfl rfl ?_
        first | refine W.addI rfl rfl (by omega) rfl ?_ | refine W.addW rfl rfl rfl ?_
        refine W.assign rfl rfl ?_
        refine W.nil ?_
        refine At.thenRound (i + 1) (Sub.cons (rfl) (Sub.cons (look_eq rfl (by rw [hgb])) (Sub.cons (rfl) (Sub.cons (look_eq rfl (iV (by omega))) (Sub.nil))))) (show Ext w _ ∧ (i + 1) ≤ n ∧ Bk _ g2 (key.map byteV) ∧ (∃ H : List UInt8, H.length = 32 ∧ Bk _ g6 (H.map byteV) ∧ (0 < (i + 1) → H = ksV key (((i + 1) - 1) / 32))) ∧ Ow _ w.heap.size 5 (.slice bo b.length cb) (turnP key b (i + 1)) from ?_) (show n - (i + 1) < n - i from ?_)
        · refine ⟨(hX16.ext hX8).news hc10 (fun q hq => Or.inr (by omega)), by omega, (hB26.ext hX8).chg hc10 (fun h => hgb2 h.symm), ⟨K, hKl, (hBK.ext hX8).chg hc10 hgg.1, fun _ => by rw [hK, Nat.add_sub_cancel]⟩, ?_⟩
          rw [hgb]; exact hO10
        · omega
  · refine C.exit ?_
    refine At.thenExit ?_
    refine At.thenExit ?_
    refine At.blockSelf ?_
    refine At.thenCode ?_
    refine C.seq ?_
    refine C.region ?_
    refine W.move rfl rfl ?_
    refine W.assign rfl rfl ?_
    refine W.nil ?_
    refine At.thenCode ?_
    refine C.ret ?_
    refine At.ret1 Try.results34 rfl ?_
    rw [turnP_full (show b.length ≤ i by omega)] at hO1
    exact ⟨hO1, hX1⟩

/-! ### tags -/
def tagB (beside c : List UInt8) : List UInt8 := [116] ++ be64 beside.length ++ beside ++ c
def tagV (key beside c : List UInt8) : List UInt8 := (macV key (tagB beside c)).take 16
theorem tagV_length (key beside c : List UInt8) : (tagV key beside c).length = 16 := by unfold tagV; rw [List.length_take, macV_length]; rfl
theorem tagB_length (beside c : List UInt8) : (tagB beside c).length = 9 + beside.length + c.length := by unfold tagB; simp only [List.length_append, be64_length, List.length_singleton]
theorem tagged_ok (key : List UInt8) (ao : Option Addr) (co : Nat) (beside : List UInt8) (bo : Option Addr) (cb : Nat) (c : List UInt8) (w : World) (hk : key.length = 32) (hS : Bs w ao co beside) (hT : Bs w bo cb c) (hl : beside.length ≤ 300000) (hl2 : c.length ≤ 300000) :
    Ct Try.prog 32 #[keyV key, .slice ao beside.length co, .slice bo c.length cb] w (fun v w' => (∃ q k, v = .slice q (tagV key beside c).length k ∧ Bs w' q k (tagV key beside c) ∧ ∀ ad, q = some ad → w.heap.size ≤ ad.block) ∧ Ext w w') := by
  refine Ct.enter [(0, keyV key), (1, .slice ao beside.length co), (2, .slice bo c.length cb)] Try.func32 rfl rfl rfl rfl ?_
  refine C.seq ?_
  refine C.region ?_
  refine W.box (key.map byteV) rfl rfl rfl ?_
  intro g3 w3 hg3 hX3 hB3
  have hl3 := hB3.lt
  refine W.assign rfl rfl ?_
  refine W.nil ?_
  refine At.thenCode ?_
  refine C.seq ?_
  refine C.region ?_
  refine W.litB [116] E8 Try.underlying24 rfl rfl rfl rfl rfl ?_
  intro g9 w9 hg9 hX9 ho9 hb9
  refine W.move rfl rfl ?_
  refine W.lenS rfl Try.underlying24 rfl ?_
  first | refine W.convIN (M := 18446744073709551616) rfl Try.underlying3 Try.underlying32 rfl rfl (by omega) rfl ?_ | refine W.convIU (M := 18446744073709551616) rfl Try.underlying3 Try.underlying32 rfl rfl rfl ?_
  refine W.eqv (v' := .int .u64 (beside.length : Int)) (iV (by omega)) ?_
  refine W.call Try.call42 rfl (Words.Put64_ok _ _ [116] beside.length _ hb9 (by decide)) rfl ?_
  rintro v13 w13 ⟨ho13, hX13⟩
  have hX13' := (hX3.ext hX9).ext hX13
  have hS13 := hS.ext hX13'
  have hT13 := hT.ext hX13'
  have hB13 := (hB3.ext hX9).ext hX13
  have hs13 := hX13'.size
  have hs3 := hX3.size
  have hs9 := hX9.size
  have hsx := hX13.size
  have hown : ∀ k, v13.ownBlock = some k → w9.heap.size ≤ k ∧ k < w13.heap.size := fun k hk => World.ownsRow.lt ho13 k hk
  have hnS : ∀ {q : Option Addr} {cq : Nat} {y : List UInt8}, Bs w q cq y → ∀ ad, q = some ad → y.map byteV ≠ [] → ad.block < w13.heap.size ∧ ¬ v13.ownBlock = some ad.block := fun hy ad e hne => by
    have h1 := Sl.blk hy e hne
    exact ⟨by omega, fun hk => by have := hown _ hk; omega⟩
  obtain ⟨T, hT'⟩ : ∃ T, T = macV key (tagB beside c) := ⟨_, rfl⟩
  have hTl : T.length = 32 := by rw [hT']; exact macV_length _ _
  have hB9ne : ¬ v13.ownBlock = some g3 := fun hk => by have := hown _ hk; omega
  refine W.assign rfl rfl ?_
  refine W.nil ?_
  refine At.thenCode ?_
  refine C.seq ?_
  refine C.regionAnyG (GP w13.heap.size 5 1 0 (fun k => v13.ownBlock = some k) ((tagB beside c).map byteV)) (GP.trans) (GP.ext) 8 ((fun v w => v = .slice (some ⟨g3, 0, none⟩) 32 32) :: (fun v w => v = v13) :: (fun v w => v = .slice ao beside.length co) :: (fun v w => Ow w w9.heap.size 5 v ([116] ++ be64 beside.length ++ beside) ∧ ∀ k, v.ownBlock = some k → v13.ownBlock = some k ∨ w13.heap.size ≤ k) :: (fun v w => v = .slice bo c.length cb) :: (fun v w => Ow w w9.heap.size 5 v (tagB beside c)) :: (fun v w => v = keyV T) :: (fun v w => ∃ g, v = .pointer (some ⟨g, 0, none⟩) ∧ w13.heap.size ≤ g ∧ w.heap[g]? = some (.cells (List.replicate 32 (byteV 0)).toArray 23 (0, 0))) :: []) [(1, .slice ao beside.length co), (2, .slice bo c.length cb), (3, .pointer (some ⟨g3, 0, none⟩)), (7, v13)] [] (Sub.cons (rfl) (Sub.cons (rfl) (Sub.cons (rfl) (Sub.cons (rfl) (Sub.nil))))) (Sub.nil) (Sub.cons (rfl) (Sub.cons (rfl) (Sub.cons (rfl) (Sub.cons (rfl) (Sub.nil))))) (by kernel_rfl) rfl rfl rfl (And.intro (fun _ _ _ h _ => h) (And.intro (fun _ _ _ h _ => h) (And.intro (fun _ _ _ h _ => h) (And.intro (fun _ _ _ ⟨ho, h2⟩ gp => ⟨GP.rowB gp ho (List.prefix_append _ _), h2⟩) (And.intro (fun _ _ _ h _ => h) (And.intro (fun _ _ _ ho gp => GP.rowB gp ho (List.prefix_refl _)) (And.intro (fun _ _ _ h _ => h) (And.intro (fun _ _ _ ⟨g, hv, hg, hb⟩ gp => ⟨g, hv, hg, GP.bk gp hb (by decide) (fun hk => by have := hown _ hk; omega)⟩) (trivial))))))))) ?_ ?_
  · refine And.intro ?_ ?_
    · intro L_ w14 hX_ hs_ hf_ hd_
      refine W.step [(3, _)] (Sub.cons (hs_ _ _ rfl) (Sub.refl _)) ?_
      refine W.sliceA X8 Try.underlying23 rfl rfl ?_
      refine W.nil ?_
      exact At.step ((GP.ext) _ _ (Ext.refl _)) rfl
    refine And.intro ?_ ?_
    · intro L_ w14 hX_ hs_ hf_ hd_
      refine W.step [(7, _)] (Sub.cons (hs_ _ _ rfl) (Sub.refl _)) ?_
      refine W.move rfl rfl ?_
      refine W.nil ?_
      exact At.step ((GP.ext) _ _ (Ext.refl _)) rfl
    refine And.intro ?_ ?_
    · intro L_ w14 hX_ hs_ hf_ hd_
      refine W.step [(1, _)] (Sub.cons (hs_ _ _ rfl) (Sub.refl _)) ?_
      refine W.move rfl rfl ?_
      refine W.nil ?_
      exact At.step ((GP.ext) _ _ (Ext.refl _)) rfl
    refine And.intro ?_ ?_
    · intro L_ w14 hX_ hs_ hf_ hd_
      obtain ⟨v1, e1, r1⟩ := hd_ 1 rfl
      obtain rfl : (v13 : Value) = v1 := Eq.symm r1
      obtain ⟨v2, e2, r2⟩ := hd_ 2 rfl
      obtain rfl : (.slice ao beside.length co : Value) = v2 := Eq.symm r2
      refine W.step [(15, _), (16, _)] (Sub.cons (e1 _ rfl) (Sub.cons (e2 _ rfl) (Sub.refl _))) ?_
      have hoL : Ow w14 w9.heap.size 5 v13 ([116] ++ be64 beside.length) := GP.rowB hX_ ho13 (by unfold tagB; rw [List.append_assoc, List.append_assoc]; rw [← List.append_assoc]; exact List.prefix_append _ _)
      have hS14 : Bs w14 ao co beside := GP.slOld hX_ hS13 (hnS hS)
      refine W.appendGB (ys := beside) E8 Try.underlying24 rfl rfl hoL hS14 (by rw [List.length_append, be64_length, List.length_singleton]; omega) (by have := hX_.size; omega) rfl ?_
      intro v17 w17 ho17 hg17
      refine W.nil ?_
      exact At.step (GP.grewB hg17 hoL (List.prefix_append _ _) (fun k hk => Or.inl hk)) ⟨ho17, fun k hk => (hg17.own k hk).imp id fun h => Nat.le_trans hX_.size h⟩
    refine And.intro ?_ ?_
    · intro L_ w14 hX_ hs_ hf_ hd_
      refine W.step [(2, _)] (Sub.cons (hs_ _ _ rfl) (Sub.refl _)) ?_
      refine W.move rfl rfl ?_
      refine W.nil ?_
      exact At.step ((GP.ext) _ _ (Ext.refl _)) rfl
    refine And.intro ?_ ?_
    · intro L_ w14 hX_ hs_ hf_ hd_
      obtain ⟨v3, e3, r3⟩ := hd_ 3 rfl
      obtain ⟨ho3, hv3⟩ := r3
      obtain ⟨v4, e4, r4⟩ := hd_ 4 rfl
      obtain rfl : (.slice bo c.length cb : Value) = v4 := Eq.symm r4
      refine W.step [(17, _), (18, _)] (Sub.cons (e3 _ rfl) (Sub.cons (e4 _ rfl) (Sub.refl _))) ?_
      have hT14 : Bs w14 bo cb c := GP.slOld hX_ hT13 (hnS hT)
      have hv17 : ∀ k, v3.ownBlock = some k → v13.ownBlock = some k ∨ (w13.heap.size ≤ k ∧ 0 ≤ ([116] ++ be64 beside.length ++ beside).length + c.length) := fun k hk => (hv3 k hk).imp id fun h => ⟨h, Nat.zero_le _⟩
      refine W.appendGB (ys := c) E8 Try.underlying24 rfl rfl ho3 hT14 (by simp only [List.length_append, be64_length, List.length_singleton]; omega) (by have := hX_.size; omega) rfl ?_
      intro v19 w19 ho19 hg19
      refine W.nil ?_
      exact At.step (GP.grewB hg19 ho3 (List.prefix_refl _) (fun k hk => hv17 k hk)) ho19
    refine And.intro ?_ ?_
    · intro L_ w14 hX_ hs_ hf_ hd_
      obtain ⟨v0, e0, r0⟩ := hd_ 0 rfl
      obtain rfl : (.slice (some ⟨g3, 0, none⟩) 32 32 : Value) = v0 := Eq.symm r0
      obtain ⟨v5, e5, r5⟩ := hd_ 5 rfl
      refine W.step [(14, _), (19, _)] (Sub.cons (e0 _ rfl) (Sub.cons (e5 _ rfl) (Sub.refl _))) ?_
      obtain ⟨ao20, c20, rfl, hS20, _⟩ := ownsRow_form r5
      have hBL : Bk w14 g3 (key.map byteV) := GP.bkOld hX_ hB13 (by omega) hB9ne
      have hSk : Bs w14 (some ⟨g3, 0, none⟩) 32 key := by show Sl _ _ _ _ _ _; rw [hk]; exact hBL.sl 1 (by rw [List.length_map, hk]) (by omega)
      have hmo := Mac.Of_ok (some ⟨g3, 0, none⟩) 32 key _ _ _ w14 hSk hS20 (by omega) (by rw [tagB_length]; omega)
      rw [hk] at hmo
      refine W.call Try.call61 rfl hmo rfl ?_
      rintro v20 w20 ⟨rfl, hX20⟩
      rw [← hT']
      refine W.nil ?_
      exact At.step (GP.ext _ _ hX20) rfl
    refine And.intro ?_ ?_
    · intro L_ w14 hX_ hs_ hf_ hd_
      refine W.step [] (Sub.refl _) ?_
      refine W.allocT (z := .agg (List.replicate 32 (byteV 0)).toArray) (List.replicate 32 (byteV 0)) (by kernel_rfl) rfl rfl ?_
      intro g8 w8 hg8 hX8 hB8
      refine W.nil ?_
      exact At.step (GP.ext _ _ hX8) ⟨g8, rfl, by have := hX_.size; omega, hB8⟩
    exact trivial
  · intro L_ w14 hX2 hs_ hv_
    obtain ⟨v7, e7, r7⟩ := hv_ 7 (by decide)
    obtain ⟨g8, rfl, hn8, hB8⟩ := r7
    obtain ⟨v6, e6, r6⟩ := hv_ 6 (by decide)
    obtain rfl : (keyV T : Value) = v6 := Eq.symm r6
    refine W.weaken (l' := [(8, _), (20, _), (1, _), (2, _), (3, _), (7, _)]) (Sub.cons (e7 _ rfl) (Sub.cons (e6 _ rfl) (Sub.cons (hs_ _ _ rfl) (Sub.cons (hs_ _ _ rfl) (Sub.cons (hs_ _ _ rfl) (Sub.cons (hs_ _ _ rfl) (Sub.nil))))))) ?_
    have hc2 := hX2.chg (Nat.le_refl _)
    have hX2' : Ext w _ := hX13'.news hc2 (fun k hk => Or.inr (by have := hown k hk; omega))
    refine W.storeA (T.map byteV) rfl rfl ⟨_, hB8⟩ (by rw [List.length_map, hTl]; rfl) (by rw [List.length_map, hTl]; kernel_rfl) (bytes_oneCell _) ?_
    intro wz hcz hBz
    have hXz : Ext w wz := hX2'.news hcz (fun k hk => Or.inr (by omega))
    refine W.nil ?_
    refine At.thenCode ?_
    refine C.seq ?_
    refine C.region ?_
    refine W.sliceAH (m := 16) (kk := .i64) X8 Try.underlying23 rfl rfl (by decide) (by decide) rfl ?_
    refine W.assign rfl rfl ?_
    refine W.nil ?_
    refine At.thenCode ?_
    refine C.ret ?_
    refine At.ret1 Try.results32 rfl ?_
    have hl16 : (tagV key beside c).length = 16 := tagV_length _ _ _
    refine ⟨⟨some ⟨g8, 0, none⟩, 32, by rw [hl16], ?_, fun ad e => by obtain rfl := Option.some.inj e; show w.heap.size ≤ g8; omega⟩, hXz⟩
    show Sl _ _ _ _ _ _
    rw [hl16]
    refine ⟨by omega, by rw [List.length_map, hl16], (fun e => by cases e), fun ad e => ?_⟩
    obtain rfl := Option.some.inj e
    have := hBz.cellsN (o := 0) (n := 16)
    unfold tagV
    rw [← hT', List.map_take]
    rwa [List.drop_zero] at this
theorem rtag_ok (key : List UInt8) (ao : Option Addr) (co : Nat) (beside : List UInt8) (bo : Option Addr) (cb : Nat) (c : List UInt8) (w : World) (hk : key.length = 32) (hS : Bs w ao co beside) (hT : Bs w bo cb c) (hl : beside.length ≤ 300000) (hl2 : c.length ≤ 300000) :
    Ct Try.prog 35 #[keyV key, .slice ao beside.length co, .slice bo c.length cb] w (fun v w' => (∃ q k, v = .slice q (tagV key beside c).length k ∧ Bs w' q k (tagV key beside c) ∧ ∀ ad, q = some ad → w.heap.size ≤ ad.block) ∧ Ext w w') := by
  refine Ct.enter [(0, keyV key), (1, .slice ao beside.length co), (2, .slice bo c.length cb)] Try.func35 rfl rfl rfl rfl ?_
  refine C.seq ?_
  refine C.region ?_
  refine W.box (key.map byteV) rfl rfl rfl ?_
  intro g3 w3 hg3 hX3 hB3
  have hl3 := hB3.lt
  refine W.assign rfl rfl ?_
  refine W.nil ?_
  refine At.thenCode ?_
  refine C.seq ?_
  refine C.region ?_
  refine W.litB [116] E8 Try.underlying24 rfl rfl rfl rfl rfl ?_
  intro g9 w9 hg9 hX9 ho9 hb9
  refine W.move rfl rfl ?_
  refine W.lenS rfl Try.underlying24 rfl ?_
  first | refine W.convIN (M := 18446744073709551616) rfl Try.underlying3 Try.underlying32 rfl rfl (by omega) rfl ?_ | refine W.convIU (M := 18446744073709551616) rfl Try.underlying3 Try.underlying32 rfl rfl rfl ?_
  refine W.eqv (v' := .int .u64 (beside.length : Int)) (iV (by omega)) ?_
  refine W.call Try.call58 rfl (Words.RPut64_ok _ _ [116] beside.length _ hb9 (by decide)) rfl ?_
  rintro v12 w12 ⟨ho12, hX12⟩
  refine W.move rfl rfl ?_
  refine W.appendB (ys := beside) E8 Try.underlying24 rfl rfl ho12 (((hS.ext hX3).ext hX9).ext hX12) (by rw [List.length_append, be64_length, List.length_singleton]; omega) hX12.size rfl ?_
  intro v13 w13 ho13 hg13 _
  have hX13 : Ext w9 w13 := hX12.news (Chg.of_grown hg13) (fun k hk => Or.inr ((World.ownsRow.lt ho12 k hk.symm).1))
  have hX13' := (hX3.ext hX9).ext hX13
  have hT13 := hT.ext hX13'
  have hB13 := (hB3.ext hX9).ext hX13
  have hs13 := hX13'.size
  have hs3 := hX3.size
  have hs9 := hX9.size
  have hsx := hX13.size
  have hown : ∀ k, v13.ownBlock = some k → w9.heap.size ≤ k ∧ k < w13.heap.size := fun k hk => World.ownsRow.lt ho13 k hk
  have hnS : ∀ ad, bo = some ad → c.map byteV ≠ [] → ad.block < w13.heap.size ∧ ¬ v13.ownBlock = some ad.block := fun ad e hne => by
    have h1 := Sl.blk hT e hne
    exact ⟨by omega, fun hk => by have := hown _ hk; omega⟩
  obtain ⟨T, hT'⟩ : ∃ T, T = macV key (tagB beside c) := ⟨_, rfl⟩
  have hTl : T.length = 32 := by rw [hT']; exact macV_length _ _
  have hB9ne : ¬ v13.ownBlock = some g3 := fun hk => by have := hown _ hk; omega
  refine W.assign rfl rfl ?_
  refine W.nil ?_
  refine At.thenCode ?_
  refine C.seq ?_
  refine C.regionAnyG (GP w13.heap.size 5 1 1000000000 (fun k => v13.ownBlock = some k) ((tagB beside c).map byteV)) (GP.trans) (GP.ext) 6 ((fun v w => v = .slice (some ⟨g3, 0, none⟩) 32 32) :: (fun v w => v = v13) :: (fun v w => v = .slice bo c.length cb) :: (fun v w => Ow w w9.heap.size 5 v (tagB beside c)) :: (fun v w => v = keyV T) :: (fun v w => ∃ g, v = .pointer (some ⟨g, 0, none⟩) ∧ w13.heap.size ≤ g ∧ w.heap[g]? = some (.cells (List.replicate 32 (byteV 0)).toArray 23 (0, 0))) :: []) [(2, .slice bo c.length cb), (3, .pointer (some ⟨g3, 0, none⟩)), (7, v13)] [] (Sub.cons (rfl) (Sub.cons (rfl) (Sub.cons (rfl) (Sub.nil)))) (Sub.nil) (Sub.cons (rfl) (Sub.cons (rfl) (Sub.cons (rfl) (Sub.nil)))) (by kernel_rfl) rfl rfl rfl (And.intro (fun _ _ _ h _ => h) (And.intro (fun _ _ _ h _ => h) (And.intro (fun _ _ _ h _ => h) (And.intro (fun _ _ _ ho gp => GP.rowB gp ho (List.prefix_refl _)) (And.intro (fun _ _ _ h _ => h) (And.intro (fun _ _ _ ⟨g, hv, hg, hb⟩ gp => ⟨g, hv, hg, GP.bk gp hb (by decide) (fun hk => by have := hown _ hk; omega)⟩) (trivial))))))) ?_ ?_
  · refine And.intro ?_ ?_
    · intro L_ w14 hX_ hs_ hf_ hd_
      refine W.step [(3, _)] (Sub.cons (hs_ _ _ rfl) (Sub.refl _)) ?_
      refine W.sliceA X8 Try.underlying23 rfl rfl ?_
      refine W.nil ?_
      exact At.step ((GP.ext) _ _ (Ext.refl _)) rfl
    refine And.intro ?_ ?_
    · intro L_ w14 hX_ hs_ hf_ hd_
      refine W.step [(7, _)] (Sub.cons (hs_ _ _ rfl) (Sub.refl _)) ?_
      refine W.move rfl rfl ?_
      refine W.nil ?_
      exact At.step ((GP.ext) _ _ (Ext.refl _)) rfl
    refine And.intro ?_ ?_
    · intro L_ w14 hX_ hs_ hf_ hd_
      refine W.step [(2, _)] (Sub.cons (hs_ _ _ rfl) (Sub.refl _)) ?_
      refine W.move rfl rfl ?_
      refine W.nil ?_
      exact At.step ((GP.ext) _ _ (Ext.refl _)) rfl
    refine And.intro ?_ ?_
    · intro L_ w14 hX_ hs_ hf_ hd_
      obtain ⟨v1, e1, r1⟩ := hd_ 1 rfl
      obtain rfl : (v13 : Value) = v1 := Eq.symm r1
      obtain ⟨v2, e2, r2⟩ := hd_ 2 rfl
      obtain rfl : (.slice bo c.length cb : Value) = v2 := Eq.symm r2
      refine W.step [(17, _), (18, _)] (Sub.cons (e1 _ rfl) (Sub.cons (e2 _ rfl) (Sub.refl _))) ?_
      have hoL : Ow w14 w9.heap.size 5 v13 ([116] ++ be64 beside.length ++ beside) := GP.rowB hX_ ho13 (List.prefix_append _ _)
      have hT14 : Bs w14 bo cb c := GP.slOld hX_ hT13 hnS
      refine W.appendGB (ys := c) E8 Try.underlying24 rfl rfl hoL hT14 (by simp only [List.length_append, be64_length, List.length_singleton]; omega) (by have := hX_.size; omega) rfl ?_
      intro v17 w17 ho17 hg17
      refine W.nil ?_
      exact At.step (GP.grewB hg17 hoL (List.prefix_refl _) (fun k hk => Or.inl hk)) ho17
    refine And.intro ?_ ?_
    · intro L_ w14 hX_ hs_ hf_ hd_
      obtain ⟨v0, e0, r0⟩ := hd_ 0 rfl
      obtain rfl : (.slice (some ⟨g3, 0, none⟩) 32 32 : Value) = v0 := Eq.symm r0
      obtain ⟨v3, e3, r3⟩ := hd_ 3 rfl
      refine W.step [(16, _), (19, _)] (Sub.cons (e0 _ rfl) (Sub.cons (e3 _ rfl) (Sub.refl _))) ?_
      obtain ⟨ao20, c20, rfl, hS20, _⟩ := ownsRow_form r3
      have hBL : Bk w14 g3 (key.map byteV) := GP.bkOld hX_ hB13 (by omega) hB9ne
      have hSk : Bs w14 (some ⟨g3, 0, none⟩) 32 key := by show Sl _ _ _ _ _ _; rw [hk]; exact hBL.sl 1 (by rw [List.length_map, hk]) (by omega)
      have hmo := Mac.RMac_ok (some ⟨g3, 0, none⟩) 32 key _ _ _ w14 hSk hS20 (by omega) (by rw [tagB_length]; omega)
      rw [hk] at hmo
      refine W.call Try.call62 rfl hmo rfl ?_
      rintro v20 w20 ⟨rfl, hX20⟩
      rw [← hT']
      refine W.nil ?_
      exact At.step (GP.ext _ _ hX20) rfl
    refine And.intro ?_ ?_
    · intro L_ w14 hX_ hs_ hf_ hd_
      refine W.step [] (Sub.refl _) ?_
      refine W.allocT (z := .agg (List.replicate 32 (byteV 0)).toArray) (List.replicate 32 (byteV 0)) (by kernel_rfl) rfl rfl ?_
      intro g8 w8 hg8 hX8 hB8
      refine W.nil ?_
      exact At.step (GP.ext _ _ hX8) ⟨g8, rfl, by have := hX_.size; omega, hB8⟩
    exact trivial
  · intro L_ w14 hX2 hs_ hv_
    obtain ⟨v5, e5, r5⟩ := hv_ 5 (by decide)
    obtain ⟨g8, rfl, hn8, hB8⟩ := r5
    obtain ⟨v4, e4, r4⟩ := hv_ 4 (by decide)
    obtain rfl : (keyV T : Value) = v4 := Eq.symm r4
    refine W.weaken (l' := [(8, _), (20, _), (2, _), (3, _), (7, _)]) (Sub.cons (e5 _ rfl) (Sub.cons (e4 _ rfl) (Sub.cons (hs_ _ _ rfl) (Sub.cons (hs_ _ _ rfl) (Sub.cons (hs_ _ _ rfl) (Sub.nil)))))) ?_
    have hc2 := hX2.chg (Nat.le_refl _)
    have hX2' : Ext w _ := hX13'.news hc2 (fun k hk => Or.inr (by have := hown k hk; omega))
    refine W.storeA (T.map byteV) rfl rfl ⟨_, hB8⟩ (by rw [List.length_map, hTl]; rfl) (by rw [List.length_map, hTl]; kernel_rfl) (bytes_oneCell _) ?_
    intro wz hcz hBz
    have hXz : Ext w wz := hX2'.news hcz (fun k hk => Or.inr (by omega))
    refine W.nil ?_
    refine At.thenCode ?_
    refine C.seq ?_
    refine C.region ?_
    refine W.sliceAH (m := 16) (kk := .i64) X8 Try.underlying23 rfl rfl (by decide) (by decide) rfl ?_
    have hl16 : (tagV key beside c).length = 16 := tagV_length _ _ _
    have hSt : Bs wz (some ⟨g8, 0, none⟩) 32 (tagV key beside c) := by
      show Sl _ _ _ _ _ _
      rw [hl16]
      refine ⟨by omega, by rw [List.length_map, hl16], (fun e => by cases e), fun ad e => ?_⟩
      obtain rfl := Option.some.inj e
      have := hBz.cellsN (o := 0) (n := 16)
      unfold tagV
      rw [← hT', List.map_take]
      rwa [List.drop_zero] at this
    refine W.appendB (ys := tagV key beside c) E8 Try.underlying24 rfl (look_eq rfl (by rw [hl16])) (Ow.nil _ wz.heap.size 5) hSt (by simp; omega) (Nat.le_refl _) rfl ?_
    rw [List.nil_append]
    intro v22 w22 ho22 hg22 _
    have hX22 : Ext wz w22 := (Chg.of_grown hg22).mono fun k hk => by cases hk
    obtain ⟨q22, k22, rfl, hS22, hb22⟩ := ownsRow_form ho22
    refine W.assign rfl rfl ?_
    refine W.nil ?_
    refine At.thenCode ?_
    refine C.ret ?_
    refine At.ret1 Try.results35 rfl ?_
    exact ⟨⟨q22, k22, rfl, hS22, fun ad e => by have := hb22 ad e; have := hXz.size; omega⟩, hXz.ext hX22⟩

/-! ### sealing -/
def sealV (key beside plain : List UInt8) : List UInt8 := turnV key plain ++ tagV key beside (turnV key plain)
theorem sealV_length (key beside plain : List UInt8) : (sealV key beside plain).length = plain.length + 16 := by unfold sealV; rw [List.length_append, turnV_length, tagV_length]
def openOk (key beside b : List UInt8) : Prop := 16 ≤ b.length ∧ tagV key beside (b.take (b.length - 16)) = b.drop (b.length - 16)
instance (key beside b : List UInt8) : Decidable (openOk key beside b) := by unfold openOk; infer_instance
def openV (key beside b : List UInt8) : List UInt8 := if openOk key beside b then turnV key (b.take (b.length - 16)) else []
theorem open_seal (key beside plain : List UInt8) : openOk key beside (sealV key beside plain) ∧ openV key beside (sealV key beside plain) = plain := by
  have h1 : (sealV key beside plain).take ((sealV key beside plain).length - 16) = turnV key plain := by
    rw [sealV_length, Nat.add_sub_cancel]; unfold sealV
    rw [List.take_append_of_le_length (by rw [turnV_length]; exact Nat.le_refl _), List.take_of_length_le (by rw [turnV_length]; exact Nat.le_refl _)]
  have h2 : (sealV key beside plain).drop ((sealV key beside plain).length - 16) = tagV key beside (turnV key plain) := by
    rw [sealV_length, Nat.add_sub_cancel]; unfold sealV
    rw [List.drop_append_of_le_length (by rw [turnV_length]; exact Nat.le_refl _), List.drop_of_length_le (by rw [turnV_length]; exact Nat.le_refl _), List.nil_append]
  have h3 : openOk key beside (sealV key beside plain) := ⟨by rw [sealV_length]; omega, by rw [h1, h2]⟩
  refine ⟨h3, ?_⟩
  unfold openV
  rw [if_pos h3, h1, turnV_turnV]
theorem Equal_ok (ao : Option Addr) (c : Nat) (a : List UInt8) (bo : Option Addr) (cb : Nat) (b : List UInt8) (w : World) (hS : Bs w ao c a) (hT : Bs w bo cb b) :
    Ct Try.prog 33 #[.slice ao a.length c, .slice bo b.length cb] w (fun v w' => v = .bool (decide (a = b)) ∧ w = w') := by
  refine Ct.enter [(0, .slice ao a.length c), (1, .slice bo b.length cb)] Try.func33 rfl rfl rfl rfl ?_
  refine C.seq ?_
  refine C.region ?_
  refine W.assign rfl rfl ?_
  refine W.nil ?_
  refine At.thenCode ?_
  refine C.seq ?_
  refine C.region ?_
  refine W.move rfl rfl ?_
  refine W.bytesStr Try.underlying24 Try.underlying5 Try.underlying9 rfl hS rfl ?_
  refine W.move rfl rfl ?_
  refine W.bytesStr Try.underlying24 Try.underlying5 Try.underlying9 rfl hT rfl ?_
  refine W.eqlStr (a := a) (b := b) rfl rfl rfl ?_
  refine W.assign rfl rfl ?_
  refine W.nil ?_
  refine At.thenCode ?_
  refine C.ret ?_
  refine At.ret1 Try.results33 rfl ?_
  exact ⟨rfl, rfl⟩
theorem Seal_ok (key : List UInt8) (ao : Option Addr) (co : Nat) (beside : List UInt8) (bo : Option Addr) (cb : Nat) (plain : List UInt8) (w : World) (hk : key.length = 32) (hS : Bs w ao co beside) (hT : Bs w bo cb plain) (hl : beside.length ≤ 300000) (hl2 : plain.length ≤ 300000) :
    Ct Try.prog 13 #[keyV key, .slice ao beside.length co, .slice bo plain.length cb] w (fun v w' => Ow w' w.heap.size 5 v (sealV key beside plain) ∧ Ext w w') := by
  refine Ct.enter [(0, keyV key), (1, .slice ao beside.length co), (2, .slice bo plain.length cb)] Try.func13 rfl rfl rfl rfl ?_
  have htl := turnV_length key plain
  refine C.seq ?_
  refine C.region ?_
  refine W.box (key.map byteV) rfl rfl rfl ?_
  intro g3 w3 hg3 hX3 hB3
  refine W.assign rfl rfl ?_
  refine W.nil ?_
  refine At.thenCode ?_
  refine C.seq ?_
  refine C.region ?_
  refine W.loadA rfl (hB3.cells (o := 0)) Try.underlying23 rfl (by rw [List.drop_zero, List.length_map, hk]; kernel_rfl) rfl ?_
  refine W.move rfl rfl ?_
  refine W.call Try.call31 rfl (Seal.turned_ok key _ _ plain _ hk (hT.ext hX3) (by omega)) rfl ?_
  rintro v5 w5 ⟨ho5, hX5⟩
  obtain ⟨q5, c5, rfl, hS5, _⟩ := ownsRow_form ho5
  have hB5 := hB3.ext hX5
  refine W.assign rfl rfl ?_
  refine W.nil ?_
  refine At.thenCode ?_
  refine C.seq ?_
  refine C.region ?_
  refine W.move rfl rfl ?_
  refine W.loadA rfl (hB5.cells (o := 0)) Try.underlying23 rfl (by rw [List.drop_zero, List.length_map, hk]; kernel_rfl) rfl ?_
  refine W.move rfl rfl ?_
  refine W.move rfl rfl ?_
  refine W.call Try.call32 rfl (Seal.tagged_ok key _ _ beside _ _ _ _ hk ((hS.ext hX3).ext hX5) hS5 (by omega) (by omega)) rfl ?_
  rintro v6 w6 ⟨⟨q6, k6, rfl, hS6, _⟩, hX6⟩
  have ho6 := ownsRow_ext ho5 hX6
  have htg := tagV_length key beside (turnV key plain)
  refine W.appendB (ys := tagV key beside (turnV key plain)) E8 Try.underlying24 rfl rfl ho6 hS6 (by omega) (by have := hX5.size; have := hX6.size; omega) rfl ?_
  intro v7 w7 ho7 hg7 _
  have hX7 : Ext w3 w7 := (hX5.ext hX6).news (Chg.of_grown hg7) (fun k hk => Or.inr ((World.ownsRow.lt ho6 k hk.symm).1))
  refine W.assign rfl rfl ?_
  refine W.nil ?_
  refine At.thenCode ?_
  refine C.ret ?_
  refine At.ret1 Try.results13 rfl ?_
  exact ⟨ownsRow_base ho7 hX3.size, hX3.ext hX7⟩
theorem RSeal_ok (key : List UInt8) (ao : Option Addr) (co : Nat) (beside : List UInt8) (bo : Option Addr) (cb : Nat) (plain : List UInt8) (w : World) (hk : key.length = 32) (hS : Bs w ao co beside) (hT : Bs w bo cb plain) (hl : beside.length ≤ 300000) (hl2 : plain.length ≤ 300000) :
    Ct Try.prog 15 #[keyV key, .slice ao beside.length co, .slice bo plain.length cb] w (fun v w' => Ow w' w.heap.size 5 v (sealV key beside plain) ∧ Ext w w') := by
  refine Ct.enter [(0, keyV key), (1, .slice ao beside.length co), (2, .slice bo plain.length cb)] Try.func15 rfl rfl rfl rfl ?_
  have htl := turnV_length key plain
  refine C.seq ?_
  refine C.region ?_
  refine W.box (key.map byteV) rfl rfl rfl ?_
  intro g3 w3 hg3 hX3 hB3
  refine W.assign rfl rfl ?_
  refine W.nil ?_
  refine At.thenCode ?_
  refine C.seq ?_
  refine C.region ?_
  refine W.loadA rfl (hB3.cells (o := 0)) Try.underlying23 rfl (by rw [List.drop_zero, List.length_map, hk]; kernel_rfl) rfl ?_
  refine W.move rfl rfl ?_
  refine W.call Try.call34 rfl (Seal.stream_ok key _ _ plain _ hk (hT.ext hX3) (by omega)) rfl ?_
  rintro v5 w5 ⟨ho5, hX5⟩
  obtain ⟨q5, c5, rfl, hS5, _⟩ := ownsRow_form ho5
  have hB5 := hB3.ext hX5
  refine W.assign rfl rfl ?_
  refine W.nil ?_
  refine At.thenCode ?_
  refine C.seq ?_
  refine C.region ?_
  refine W.loadA rfl (hB5.cells (o := 0)) Try.underlying23 rfl (by rw [List.drop_zero, List.length_map, hk]; kernel_rfl) rfl ?_
  refine W.move rfl rfl ?_
  refine W.move rfl rfl ?_
  refine W.call Try.call35 rfl (Seal.rtag_ok key _ _ beside _ _ _ _ hk ((hS.ext hX3).ext hX5) hS5 (by omega) (by omega)) rfl ?_
  rintro v6 w6 ⟨⟨q6, k6, rfl, hS6, _⟩, hX6⟩
  have ho6 := ownsRow_ext ho5 hX6
  have htg := tagV_length key beside (turnV key plain)
  refine W.assign rfl rfl ?_
  refine W.nil ?_
  refine At.thenCode ?_
  refine C.seq ?_
  refine C.region ?_
  refine W.move rfl rfl ?_
  refine W.move rfl rfl ?_
  refine W.appendB (ys := tagV key beside (turnV key plain)) E8 Try.underlying24 rfl rfl ho6 hS6 (by omega) (by have := hX5.size; have := hX6.size; omega) rfl ?_
  intro v7 w7 ho7 hg7 _
  have hX7 : Ext w3 w7 := (hX5.ext hX6).news (Chg.of_grown hg7) (fun k hk => Or.inr ((World.ownsRow.lt ho6 k hk.symm).1))
  refine W.assign rfl rfl ?_
  refine W.nil ?_
  refine At.thenCode ?_
  refine C.ret ?_
  refine At.ret1 Try.results15 rfl ?_
  exact ⟨ownsRow_base ho7 hX3.size, hX3.ext hX7⟩
end Go.Proofs.Ytkjmllohbohliaa.Seal
