/- Package seal and the reference's functions of chapter 5. -/
import Derived.Test.YtkjmllohbohliaaMac
import Derived.Test.YtkjmllohbohliaaKq
import Derived.Test.YtkjmllohbohliaaKe
namespace Go.Proofs.Ytkjmllohbohliaa.Seal
open Go Go.RowKit Go.Proofs.Ytkjmllohbohliaa.KW Go.Proofs.Ytkjmllohbohliaa.Words Go.Proofs.Ytkjmllohbohliaa.Sha Go.Proofs.Ytkjmllohbohliaa.RSha Go.Proofs.Ytkjmllohbohliaa.Mac
set_option linter.unusedVariables false
set_option linter.unusedSimpArgs false
set_option maxRecDepth 100000

/-! ### the stream -/
def ksV (key : List UInt8) (j : Nat) : List UInt8 := macV key ([115] ++ be64 j)
theorem ksV_length (key : List UInt8) (j : Nat) : (ksV key j).length = 32 := macV_length _ _
def padV (key : List UInt8) (i : Nat) : UInt8 := (ksV key (i / 32)).getD (i % 32) 0
/-- The first i bytes are turned. -/
def turnP (key b : List UInt8) (i : Nat) : List UInt8 := (List.range b.length).map fun k => if k < i then b.getD k 0 ^^^ padV key k else b.getD k 0
def turnV (key b : List UInt8) : List UInt8 := turnP key b b.length
theorem turnP_length (key b : List UInt8) (i : Nat) : (turnP key b i).length = b.length := by simp [turnP]
theorem turnV_length (key b : List UInt8) : (turnV key b).length = b.length := turnP_length _ _ _
theorem turnP_get (key b : List UInt8) (i k : Nat) (h : k < b.length) : (turnP key b i)[k]? = some (if k < i then b.getD k 0 ^^^ padV key k else b.getD k 0) := by
  unfold turnP; rw [List.getElem?_map, List.getElem?_range h]; rfl
theorem turnP_zero (key b : List UInt8) : turnP key b 0 = b := by
  apply List.ext_getElem?
  intro k
  by_cases h : k < b.length
  · rw [turnP_get key b 0 k h, if_neg (by omega), List.getElem?_eq_getElem h]; simp [List.getD, h]
  · rw [List.getElem?_eq_none (by rw [turnP_length]; omega), List.getElem?_eq_none (by omega)]
theorem turnP_set {key b : List UInt8} {i : Nat} (h : i < b.length) : (turnP key b i).set i (b.getD i 0 ^^^ padV key i) = turnP key b (i + 1) := by
  apply List.ext_getElem?
  intro k
  rw [List.getElem?_set]
  by_cases hk : k < b.length
  · rw [turnP_get key b (i + 1) k hk]
    by_cases e : i = k
    · subst e; rw [if_pos rfl, if_pos (by rw [turnP_length]; exact h), if_pos (by omega)]
    · rw [if_neg e, turnP_get key b i k hk]
      by_cases h1 : k < i
      · rw [if_pos h1, if_pos (by omega)]
      · rw [if_neg h1, if_neg (by omega)]
  · rw [if_neg (by omega), List.getElem?_eq_none (by rw [turnP_length]; omega), List.getElem?_eq_none (by rw [turnP_length]; omega)]
theorem turnP_full {key b : List UInt8} {i : Nat} (h : b.length ≤ i) : turnP key b i = turnV key b := by
  unfold turnV turnP
  apply List.map_congr_left
  intro k hk
  have := List.mem_range.1 hk
  rw [if_pos (by omega), if_pos this]
theorem turnP_at {key b : List UInt8} {i : Nat} (h : i < b.length) : (turnP key b i)[i]? = some (b.getD i 0) := by
  rw [turnP_get key b i i h, if_neg (by omega)]
/-- Turned twice. -/
theorem turnV_turnV (key b : List UInt8) : turnV key (turnV key b) = b := by
  apply List.ext_getElem?
  intro k
  by_cases h : k < b.length
  · have h1 : (turnV key b)[k]? = some (b.getD k 0 ^^^ padV key k) := by unfold turnV; rw [turnP_get key b _ k h, if_pos h]
    have h2 : (turnV key b).getD k 0 = b.getD k 0 ^^^ padV key k := by unfold List.getD; rw [h1]; rfl
    have h3 : k < (turnV key b).length := by rw [turnV_length]; exact h
    unfold turnV at h2 h3 ⊢
    rw [turnP_get key (turnP key b b.length) _ k h3, if_pos h3, h2, List.getElem?_eq_getElem h, UInt8.xor_assoc, UInt8.xor_self, UInt8.xor_zero]
    simp [List.getD, h]
  · rw [List.getElem?_eq_none (by rw [turnV_length, turnV_length]; omega), List.getElem?_eq_none (by omega)]
theorem xor_comm_ok (a b : UInt8) : byteV (a ^^^ b) = .int .u8 ((xorM 256 a.toNat b.toNat : Nat) : Int) := by rw [xor_byte]; rfl

theorem turned_ok (key : List UInt8) (ao : Option Addr) (c : Nat) (b : List UInt8) (w : World) (hk : key.length = 32) (hS : Bs w ao c b) (hl : b.length ≤ 100000000) :
    Ct Try.prog 31 #[keyV key, .slice ao b.length c] w (fun v w' => Ow w' w.heap.size 5 v (turnV key b) ∧ Ext w w') := by
  refine Ct.enter [(0, keyV key), (1, .slice ao b.length c)] Try.func31 rfl rfl rfl rfl ?_
  obtain ⟨n, hn⟩ : ∃ n, n = b.length := ⟨_, rfl⟩
  refine C.seq ?_
  refine C.region ?_
  refine W.box (key.map byteV) rfl rfl rfl ?_
  intro g2 w2 hg2 hX2 hB2
  have hl2 := hB2.lt
  refine W.assign rfl rfl ?_
  refine W.nil ?_
  refine At.thenCode ?_
  refine C.seq ?_
  refine C.region ?_
  refine W.move rfl rfl ?_
  refine W.appendB E8 Try.underlying24 rfl rfl (Ow.nil _ w2.heap.size 5) (hS.ext hX2) (by simp; omega) (Nat.le_refl _) rfl ?_
  rw [List.nil_append]
  intro v10 w10 ho10 hg10 _
  have hX10 : Ext w2 w10 := (Chg.of_grown hg10).mono fun k hk => by cases hk
  obtain ⟨bo, cb, rfl, hhd⟩ := own_head ho10
  have hB10 := hB2.ext hX10
  have hs2 := hX2.size
  have ho10 : Ow w10 w.heap.size 5 (.slice bo b.length cb) (turnP key b 0) := by rw [turnP_zero]; exact ownsRow_base ho10 hs2
  have hhd : b ≠ [] → ∃ g, bo = some ⟨g, 0, none⟩ ∧ w.heap.size ≤ g ∧ g ≠ g2 := fun h => by
    obtain ⟨g, h1, h2, h3⟩ := hhd h
    exact ⟨g, h1, by omega, by omega⟩
  refine W.assign rfl rfl ?_
  refine W.nil ?_
  refine At.thenCode ?_
  refine C.seq ?_
  refine C.seq ?_
  refine C.region ?_
  refine W.assign rfl rfl ?_
  refine W.nil ?_
  refine At.thenCode ?_
  refine C.block ?_
  refine C.loop (X := Nat) (fun x_ => [(2, .pointer (some ⟨g2, 0, none⟩)), (5, .slice bo b.length cb), (6, .int .i64 ((32 * x_ : Nat) : Int))]) (fun x_ w1 => Ext w w1 ∧ 32 * x_ < n + 32 ∧ Bk w1 g2 (key.map byteV) ∧ Ow w1 w.heap.size 5 (.slice bo b.length cb) (turnP key b (32 * x_))) (fun x_ => n + 32 - 32 * x_) (0) (Sub.cons (rfl) (Sub.cons (rfl) (Sub.cons (rfl) (Sub.nil)))) ?start1 ?_
  case start1 =>
    show Ext w _ ∧ 32 * (0) < n + 32 ∧ Bk _ g2 (key.map byteV) ∧ Ow _ w.heap.size 5 (.slice bo b.length cb) (turnP key b (32 * (0)))
    exact ⟨hX2.ext hX10, by omega, hB10, ho10⟩
  rintro j w1 hI_
  replace hI_ : Ext w w1 ∧ 32 * j < n + 32 ∧ Bk w1 g2 (key.map byteV) ∧ Ow w1 w.heap.size 5 (.slice bo b.length cb) (turnP key b (32 * j)) := hI_
  obtain ⟨hX1, hj, hB1, hO1⟩ := hI_
  refine C.weaken (l' := [(2, .pointer (some ⟨g2, 0, none⟩)), (5, .slice bo b.length cb), (6, .int .i64 ((32 * j : Nat) : Int))]) (Sub.cons (rfl) (Sub.cons (rfl) (Sub.cons (rfl) (Sub.nil)))) ?_
  refine C.seq ?_
  refine C.seq ?_
  refine C.region ?_
  refine W.move rfl rfl ?_
  refine W.move rfl rfl ?_
  refine W.lenS rfl Try.underlying24 rfl ?_
  refine W.lssI rfl rfl rfl ?_
  refine W.nil ?_
  refine At.thenCode ?_
  first | refine C.condD rfl (fun c14 => ?_) (fun c14 => ?_) | refine C.cond rfl (fun c14 => ?_) (fun c14 => ?_)
  · have hjn : 32 * j < b.length := by omega
    obtain ⟨gb, hgb, hgb1, hgb2⟩ := hhd (by intro h; rw [h] at hjn; simp at hjn)
    rw [hgb] at hO1
    obtain ⟨K, hK⟩ : ∃ K, K = ksV key j := ⟨_, rfl⟩
    have hKl : K.length = 32 := by rw [hK]; exact ksV_length _ _
    have hlb1 := hB1.lt
    refine C.skip ?_
    refine At.thenCode ?_
    refine C.seq ?_
    refine C.block ?_
    refine C.seq ?_
    refine C.regionAny 8 ((fun v w => v = .slice (some ⟨g2, 0, none⟩) 32 32) :: (fun v w => ∃ g, v = .slice (some ⟨g, 0, none⟩) 1 1 ∧ Bs w (some ⟨g, 0, none⟩) 1 [115]) :: (fun v w => v = .int .i64 ((32 * j : Nat) : Int)) :: (fun v w => v = .int .i64 (j : Int)) :: (fun v w => v = .int .u64 (j : Int)) :: (fun v w => ∃ q c, v = .slice q ([115] ++ be64 j).length c ∧ Bs w q c ([115] ++ be64 j)) :: (fun v w => v = keyV K) :: (fun v w => ∃ g, v = .pointer (some ⟨g, 0, none⟩) ∧ w1.heap.size ≤ g ∧ Bk w g (List.replicate 32 (byteV 0))) :: []) [(2, .pointer (some ⟨g2, 0, none⟩)), (5, .slice (some ⟨gb, 0, none⟩) b.length cb), (6, .int .i64 ((32 * j : Nat) : Int))] [] (Sub.cons (rfl) (Sub.cons (look_eq rfl (by rw [hgb])) (Sub.cons (rfl) (Sub.nil)))) (Sub.nil) (Sub.cons (rfl) (Sub.cons (rfl) (Sub.cons (rfl) (Sub.nil)))) (by kernel_rfl) rfl rfl rfl (And.intro (fun _ _ _ h _ => h) (And.intro (fun _ _ _ ⟨g, hv, h⟩ x => ⟨g, hv, Sl.ext h x⟩) (And.intro (fun _ _ _ h _ => h) (And.intro (fun _ _ _ h _ => h) (And.intro (fun _ _ _ h _ => h) (And.intro (fun _ _ _ ⟨q, c, hv, h⟩ x => ⟨q, c, hv, Sl.ext h x⟩) (And.intro (fun _ _ _ h _ => h) (And.intro (fun _ _ _ ⟨g, hv, hg, h⟩ x => ⟨g, hv, hg, Bk.ext h x⟩) (trivial))))))))) ?_ ?_
    · refine And.intro ?_ ?_
      · intro L_ w5 hX_ hs_ hf_ hd_
        refine W.step [(2, _)] (Sub.cons (hs_ _ _ rfl) (Sub.refl _)) ?_
        refine W.sliceA X8 Try.underlying23 rfl rfl ?_
        refine W.nil ?_
        exact At.step (Ext.refl _) rfl
      refine And.intro ?_ ?_
      · intro L_ w5 hX_ hs_ hf_ hd_
        refine W.step [] (Sub.refl _) ?_
        refine W.litB [115] E8 Try.underlying24 rfl rfl rfl rfl rfl ?_
        intro g18 w18 hg18 hX18 ho18 hb18
        refine W.nil ?_
        exact At.step hX18 ⟨g18, rfl, hb18⟩
      refine And.intro ?_ ?_
      · intro L_ w5 hX_ hs_ hf_ hd_
        refine W.step [(6, _)] (Sub.cons (hs_ _ _ rfl) (Sub.refl _)) ?_
        refine W.move rfl rfl ?_
        refine W.nil ?_
        exact At.step (Ext.refl _) rfl
      refine And.intro ?_ ?_
      · intro L_ w5 hX_ hs_ hf_ hd_
        obtain ⟨v2, e2, r2⟩ := hd_ 2 rfl
        obtain rfl : (.int .i64 ((32 * j : Nat) : Int) : Value) = v2 := Eq.symm r2
        refine W.step [(19, _)] (Sub.cons (e2 _ rfl) (Sub.refl _)) ?_
        first | refine W.quoI rfl rfl (by omega) rfl ?_ | refine W.quoW rfl rfl (by omega) rfl ?_
        refine W.eqv (v' := .int .i64 (j : Int)) (iV (by omega)) ?_
        refine W.nil ?_
        exact At.step (Ext.refl _) rfl
      refine And.intro ?_ ?_
      · intro L_ w5 hX_ hs_ hf_ hd_
        obtain ⟨v3, e3, r3⟩ := hd_ 3 rfl
        obtain rfl : (.int .i64 (j : Int) : Value) = v3 := Eq.symm r3
        refine W.step [(20, _)] (Sub.cons (e3 _ rfl) (Sub.refl _)) ?_
        first | refine W.convIN (M := 18446744073709551616) rfl Try.underlying3 Try.underlying32 rfl rfl (by omega) rfl ?_ | refine W.convIU (M := 18446744073709551616) rfl Try.underlying3 Try.underlying32 rfl rfl rfl ?_
        refine W.eqv (v' := .int .u64 (j : Int)) (iV (by omega)) ?_
        refine W.nil ?_
        exact At.step (Ext.refl _) rfl
      refine And.intro ?_ ?_
      · intro L_ w5 hX_ hs_ hf_ hd_
        obtain ⟨v1, e1, r1⟩ := hd_ 1 rfl
        obtain ⟨g18, rfl, hS18⟩ := r1
        obtain ⟨v4, e4, r4⟩ := hd_ 4 rfl
        obtain rfl : (.int .u64 (j : Int) : Value) = v4 := Eq.symm r4
        refine W.step [(18, _), (21, _)] (Sub.cons (e1 _ rfl) (Sub.cons (e4 _ rfl) (Sub.refl _))) ?_
        refine W.call Try.call42 rfl (Words.Put64_ok _ _ [115] j _ hS18 (by decide)) rfl ?_
        rintro v22 w22 ⟨ho22, hX22⟩
        obtain ⟨q22, c22, rfl, hS22, _⟩ := ownsRow_form ho22
        refine W.nil ?_
        exact At.step hX22 ⟨_, _, rfl, hS22⟩
      refine And.intro ?_ ?_
      · intro L_ w5 hX_ hs_ hf_ hd_
        obtain ⟨v0, e0, r0⟩ := hd_ 0 rfl
        obtain rfl : (.slice (some ⟨g2, 0, none⟩) 32 32 : Value) = v0 := Eq.symm r0
        obtain ⟨v5, e5, r5⟩ := hd_ 5 rfl
        obtain ⟨q22, c22, rfl, hS22⟩ := r5
        refine W.step [(17, _), (22, _)] (Sub.cons (e0 _ rfl) (Sub.cons (e5 _ rfl) (Sub.refl _))) ?_
        have hSk : Bs w5 (some ⟨g2, 0, none⟩) 32 key := by show Sl _ _ _ _ _ _; rw [hk]; exact (hB1.ext hX_).sl 1 (by rw [List.length_map, hk]) (by omega)
        have hmo := Mac.Of_ok (some ⟨g2, 0, none⟩) 32 key _ _ _ w5 hSk hS22 (by omega) (by rw [List.length_append, be64_length]; decide)
        rw [hk] at hmo
        refine W.call Try.call61 rfl hmo rfl ?_
        rintro v23 w23 ⟨rfl, hX23⟩
        rw [show macV key ([115] ++ be64 j) = K from hK.symm]
        refine W.nil ?_
        exact At.step hX23 rfl
      refine And.intro ?_ ?_
      · intro L_ w5 hX_ hs_ hf_ hd_
        refine W.step [] (Sub.refl _) ?_
        refine W.alloc (z := .agg (List.replicate 32 (byteV 0)).toArray) (List.replicate 32 (byteV 0)) (by kernel_rfl) rfl rfl ?_
        intro g7 w7 hg7 hX7 hB7
        refine W.nil ?_
        exact At.step hX7 ⟨g7, rfl, by have := hX_.size; omega, hB7⟩
      exact trivial
    · intro L_ w5 hX5 hs_ hv_
      obtain ⟨v7, e7, r7⟩ := hv_ 7 (by decide)
      obtain ⟨g7, rfl, hn7, hB7⟩ := r7
      obtain ⟨v6, e6, r6⟩ := hv_ 6 (by decide)
      obtain rfl : (keyV K : Value) = v6 := Eq.symm r6
      refine W.weaken (l' := [(7, _), (23, _), (2, _), (5, _), (6, _)]) (Sub.cons (e7 _ rfl) (Sub.cons (e6 _ rfl) (Sub.cons (hs_ _ _ rfl) (Sub.cons (hs_ _ _ rfl) (Sub.cons (hs_ _ _ rfl) (Sub.nil)))))) ?_
      refine W.storeA (K.map byteV) rfl rfl hB7 (by rw [List.length_map, hKl]; rfl) (by rw [List.length_map, hKl]; kernel_rfl) (bytes_oneCell _) ?_
      intro w6 hc6 hB6
      have hX6 : Ext w1 w6 := hX5.news hc6 (fun k hk => Or.inr (by omega))
      have hO6 := ownsRow_ext hO1 hX6
      have hB26 := hB1.ext hX6
      have hlt1 := (World.ownsRow.lt hO1 gb rfl).2
      have hX1w := hX1.ext hX6
      have hs1 := hX1.size
      refine W.nil ?_
      refine At.thenCode ?_
      refine C.seq ?_
      refine C.region ?_
      refine W.move rfl rfl ?_
      refine W.assign rfl rfl ?_
      refine W.nil ?_
      refine At.thenCode ?_
      refine C.block ?_
      refine C.loop (X := Nat) (fun x_ => [(2, .pointer (some ⟨g2, 0, none⟩)), (5, .slice (some ⟨gb, 0, none⟩) b.length cb), (6, .int .i64 ((32 * j : Nat) : Int)), (7, .pointer (some ⟨g7, 0, none⟩)), (8, .int .i64 ((32 * j + x_ : Nat) : Int))]) (fun x_ w2 => Ext w w2 ∧ x_ ≤ 32 ∧ 32 * j + x_ ≤ b.length ∧ Bk w2 g2 (key.map byteV) ∧ Bk w2 g7 (K.map byteV) ∧ Ow w2 w.heap.size 5 (.slice (some ⟨gb, 0, none⟩) b.length cb) (turnP key b (32 * j + x_))) (fun x_ => 32 - x_) (0) (Sub.cons (rfl) (Sub.cons (rfl) (Sub.cons (rfl) (Sub.cons (rfl) (Sub.cons (rfl) (Sub.nil)))))) ?start2 ?_
      case start2 =>
        show Ext w _ ∧ (0) ≤ 32 ∧ 32 * j + (0) ≤ b.length ∧ Bk _ g2 (key.map byteV) ∧ Bk _ g7 (K.map byteV) ∧ Ow _ w.heap.size 5 (.slice (some ⟨gb, 0, none⟩) b.length cb) (turnP key b (32 * j + (0)))
        exact ⟨hX1w, by omega, by omega, hB26, hB6, hO6⟩
      rintro k w2 hI_
      replace hI_ : Ext w w2 ∧ k ≤ 32 ∧ 32 * j + k ≤ b.length ∧ Bk w2 g2 (key.map byteV) ∧ Bk w2 g7 (K.map byteV) ∧ Ow w2 w.heap.size 5 (.slice (some ⟨gb, 0, none⟩) b.length cb) (turnP key b (32 * j + k)) := hI_
      obtain ⟨hX2', hk1, hk2, hB2', hB7', hO2⟩ := hI_
      refine C.weaken (l' := [(2, .pointer (some ⟨g2, 0, none⟩)), (5, .slice (some ⟨gb, 0, none⟩) b.length cb), (6, .int .i64 ((32 * j : Nat) : Int)), (7, .pointer (some ⟨g7, 0, none⟩)), (8, .int .i64 ((32 * j + k : Nat) : Int))]) (Sub.cons (rfl) (Sub.cons (rfl) (Sub.cons (rfl) (Sub.cons (rfl) (Sub.cons (rfl) (Sub.nil)))))) ?_
      refine C.seq ?_
      refine C.seq ?_
      refine C.region ?_
      refine W.move rfl rfl ?_
      refine W.move rfl rfl ?_
      first | refine W.addI rfl rfl (by omega) rfl ?_ | refine W.addW rfl rfl rfl ?_
      refine W.move rfl rfl ?_
      refine W.lenS rfl Try.underlying24 rfl ?_
      refine W.minI rfl rfl rfl ?_
      refine W.lssI rfl rfl rfl ?_
      refine W.nil ?_
      refine At.thenCode ?_
      first | refine C.condD rfl (fun c31 => ?_) (fun c31 => ?_) | refine C.cond rfl (fun c31 => ?_) (fun c31 => ?_)
      · have hkl : k < 32 ∧ 32 * j + k < b.length := by omega
        have hpe : padV key (32 * j + k) = K.getD k 0 := by unfold padV; rw [show (32 * j + k) / 32 = j by omega, show (32 * j + k) % 32 = k by omega, hK]
        have htl := turnP_length key b (32 * j + k)
        have hgt := turnP_at (key := key) (b := b) (i := 32 * j + k) (by omega)
        have hS2 : Sl w2 (some ⟨gb, 0, none⟩) b.length cb 1 ((turnP key b (32 * j + k)).map byteV) := by
          have := own_sl (cs := (turnP key b (32 * j + k)).map byteV) (by have h := hO2; unfold Ow at h; rw [htl] at h; exact h)
          exact this
        have hgk : (K.map byteV)[k]? = some (byteV (K.getD k 0)) := by rw [List.getElem?_map, List.getElem?_eq_getElem (by omega)]; simp [List.getD, show k < K.length by omega]
        refine C.skip ?_
        refine At.thenCode ?_
        refine C.seq ?_
        refine C.block ?_
        refine C.regionAny 10 ((fun v w => v = .slice (some ⟨gb, 0, none⟩) b.length cb) :: (fun v w => v = .int .i64 ((32 * j + k : Nat) : Int)) :: (fun v w => v = .pointer (some ⟨gb, 32 * j + k, none⟩)) :: (fun v w => v = byteV (b.getD (32 * j + k) 0)) :: (fun v w => v = .int .i64 ((32 * j + k : Nat) : Int)) :: (fun v w => v = .int .i64 ((32 * j : Nat) : Int)) :: (fun v w => v = .int .i64 (k : Int)) :: (fun v w => v = .pointer (some ⟨g7, k, none⟩)) :: (fun v w => v = byteV (K.getD k 0)) :: (fun v w => v = byteV (b.getD (32 * j + k) 0 ^^^ K.getD k 0)) :: []) [(2, .pointer (some ⟨g2, 0, none⟩)), (5, .slice (some ⟨gb, 0, none⟩) b.length cb), (6, .int .i64 ((32 * j : Nat) : Int)), (7, .pointer (some ⟨g7, 0, none⟩)), (8, .int .i64 ((32 * j + k : Nat) : Int))] [] (Sub.cons (rfl) (Sub.cons (rfl) (Sub.cons (rfl) (Sub.cons (rfl) (Sub.cons (rfl) (Sub.nil)))))) (Sub.nil) (Sub.cons (rfl) (Sub.cons (rfl) (Sub.cons (rfl) (Sub.cons (rfl) (Sub.cons (rfl) (Sub.nil)))))) (by kernel_rfl) rfl rfl rfl (And.intro (fun _ _ _ h _ => h) (And.intro (fun _ _ _ h _ => h) (And.intro (fun _ _ _ h _ => h) (And.intro (fun _ _ _ h _ => h) (And.intro (fun _ _ _ h _ => h) (And.intro (fun _ _ _ h _ => h) (And.intro (fun _ _ _ h _ => h) (And.intro (fun _ _ _ h _ => h) (And.intro (fun _ _ _ h _ => h) (And.intro (fun _ _ _ h _ => h) (trivial))))))))))) ?_ ?_
        · refine And.intro ?_ ?_
          · intro L_ w9 hX_ hs_ hf_ hd_
            refine W.step [(5, _)] (Sub.cons (hs_ _ _ rfl) (Sub.refl _)) ?_
            refine W.move rfl rfl ?_
            refine W.nil ?_
            exact At.step (Ext.refl _) rfl
          refine And.intro ?_ ?_
          · intro L_ w9 hX_ hs_ hf_ hd_
            refine W.step [(8, _)] (Sub.cons (hs_ _ _ rfl) (Sub.refl _)) ?_
            refine W.move rfl rfl ?_
            refine W.nil ?_
            exact At.step (Ext.refl _) rfl
          refine And.intro ?_ ?_
          · intro L_ w9 hX_ hs_ hf_ hd_
            obtain ⟨v0, e0, r0⟩ := hd_ 0 rfl
            obtain rfl : (.slice (some ⟨gb, 0, none⟩) b.length cb : Value) = v0 := Eq.symm r0
            obtain ⟨v1, e1, r1⟩ := hd_ 1 rfl
            obtain rfl : (.int .i64 ((32 * j + k : Nat) : Int) : Value) = v1 := Eq.symm r1
            refine W.step [(34, _), (35, _)] (Sub.cons (e0 _ rfl) (Sub.cons (e1 _ rfl) (Sub.refl _))) ?_
            refine W.indexS (i := ((32 * j + k : Nat) : Int)) E8 Try.underlying24 rfl (hS2.ext hX_) rfl ⟨by omega, by omega⟩ rfl ?_
            intro ad36 _ had36 _
            obtain rfl : ad36 = ⟨gb, 32 * j + k, none⟩ := by rw [had36 _ rfl, add_mk, Int.toNat_natCast, Nat.zero_add, Nat.mul_one]
            refine W.nil ?_
            exact At.step (Ext.refl _) rfl
          refine And.intro ?_ ?_
          · intro L_ w9 hX_ hs_ hf_ hd_
            obtain ⟨v2, e2, r2⟩ := hd_ 2 rfl
            obtain rfl : (.pointer (some ⟨gb, 32 * j + k, none⟩) : Value) = v2 := Eq.symm r2
            refine W.step [(36, _)] (Sub.cons (e2 _ rfl) (Sub.refl _)) ?_
            refine W.load (v := byteV (b.getD (32 * j + k) 0)) rfl Try.underlying5 rfl (by
              have h := (hS2.ext hX_).at_ _ rfl (32 * j + k) (byteV (b.getD (32 * j + k) 0)) (by rw [List.getElem?_map, hgt]; rfl)
              rwa [add_mk, Nat.zero_add] at h) rfl ?_
            refine W.nil ?_
            exact At.step (Ext.refl _) rfl
          refine And.intro ?_ ?_
          · intro L_ w9 hX_ hs_ hf_ hd_
            refine W.step [(8, _)] (Sub.cons (hs_ _ _ rfl) (Sub.refl _)) ?_
            refine W.move rfl rfl ?_
            refine W.nil ?_
            exact At.step (Ext.refl _) rfl
          refine And.intro ?_ ?_
          · intro L_ w9 hX_ hs_ hf_ hd_
            refine W.step [(6, _)] (Sub.cons (hs_ _ _ rfl) (Sub.refl _)) ?_
            refine W.move rfl rfl ?_
            refine W.nil ?_
            exact At.step (Ext.refl _) rfl
          refine And.intro ?_ ?_
          · intro L_ w9 hX_ hs_ hf_ hd_
            obtain ⟨v4, e4, r4⟩ := hd_ 4 rfl
            obtain rfl : (.int .i64 ((32 * j + k : Nat) : Int) : Value) = v4 := Eq.symm r4
            obtain ⟨v5, e5, r5⟩ := hd_ 5 rfl
            obtain rfl : (.int .i64 ((32 * j : Nat) : Int) : Value) = v5 := Eq.symm r5
            refine W.step [(38, _), (39, _)] (Sub.cons (e4 _ rfl) (Sub.cons (e5 _ rfl) (Sub.refl _))) ?_
            first | refine W.subI rfl rfl (by omega) rfl ?_ | refine W.subW rfl rfl rfl ?_
            refine W.eqv (v' := .int .i64 (k : Int)) (iV (by omega)) ?_
            refine W.nil ?_
            exact At.step (Ext.refl _) rfl
          refine And.intro ?_ ?_
          · intro L_ w9 hX_ hs_ hf_ hd_
            obtain ⟨v6, e6, r6⟩ := hd_ 6 rfl
            obtain rfl : (.int .i64 (k : Int) : Value) = v6 := Eq.symm r6
            refine W.step [(7, _), (40, _)] (Sub.cons (hs_ _ _ rfl) (Sub.cons (e6 _ rfl) (Sub.refl _))) ?_
            refine W.indexA1 (j := k) X8 Try.underlying23 rfl rfl hkl.1 rfl ?_
            refine W.nil ?_
            exact At.step (Ext.refl _) rfl
          refine And.intro ?_ ?_
          · intro L_ w9 hX_ hs_ hf_ hd_
            obtain ⟨v7, e7, r7⟩ := hd_ 7 rfl
            obtain rfl : (.pointer (some ⟨g7, k, none⟩) : Value) = v7 := Eq.symm r7
            refine W.step [(41, _)] (Sub.cons (e7 _ rfl) (Sub.refl _)) ?_
            refine W.loadB rfl Try.underlying5 rfl (hB7'.ext hX_) hgk rfl ?_
            refine W.nil ?_
            exact At.step (Ext.refl _) rfl
          refine And.intro ?_ ?_
          · intro L_ w9 hX_ hs_ hf_ hd_
            obtain ⟨v3, e3, r3⟩ := hd_ 3 rfl
            obtain rfl : (byteV (b.getD (32 * j + k) 0) : Value) = v3 := Eq.symm r3
            obtain ⟨v8, e8, r8⟩ := hd_ 8 rfl
            obtain rfl : (byteV (K.getD k 0) : Value) = v8 := Eq.symm r8
            refine W.step [(37, _), (42, _)] (Sub.cons (e3 _ rfl) (Sub.cons (e8 _ rfl) (Sub.refl _))) ?_
            refine W.xorU (M := 256) (m := (b.getD (32 * j + k) 0).toNat) (n := (K.getD k 0).toNat) rfl rfl rfl rfl rfl ?_
            refine W.eqv (v' := byteV (b.getD (32 * j + k) 0 ^^^ K.getD k 0)) (xor_comm_ok _ _).symm ?_
            refine W.nil ?_
            exact At.step (Ext.refl _) rfl
          exact trivial
        · intro L_ w9 hX9 hs_ hv_
          obtain ⟨v0, e0, r0⟩ := hv_ 0 (by decide)
          obtain rfl : (.slice (some ⟨gb, 0, none⟩) b.length cb : Value) = v0 := Eq.symm r0
          obtain ⟨v1, e1, r1⟩ := hv_ 1 (by decide)
          obtain rfl : (.int .i64 ((32 * j + k : Nat) : Int) : Value) = v1 := Eq.symm r1
          obtain ⟨v9, e9, r9⟩ := hv_ 9 (by decide)
          obtain rfl : (byteV (b.getD (32 * j + k) 0 ^^^ K.getD k 0) : Value) = v9 := Eq.symm r9
          refine W.weaken (l' := [(34, _), (35, _), (43, _), (2, _), (5, _), (6, _), (7, _), (8, _)]) (Sub.cons (e0 _ rfl) (Sub.cons (e1 _ rfl) (Sub.cons (e9 _ rfl) (Sub.cons (hs_ _ _ rfl) (Sub.cons (hs_ _ _ rfl) (Sub.cons (hs_ _ _ rfl) (Sub.cons (hs_ _ _ rfl) (Sub.cons (hs_ _ _ rfl) (Sub.nil))))))))) ?_
          refine W.indexS (i := ((32 * j + k : Nat) : Int)) E8 Try.underlying24 rfl (hS2.ext hX9) rfl ⟨by omega, by omega⟩ rfl ?_
          intro ad44 _ had44 _
          obtain rfl : ad44 = ⟨gb, 32 * j + k, none⟩ := by rw [had44 _ rfl, add_mk, Int.toNat_natCast, Nat.zero_add, Nat.mul_one]
          have hO9 := ownsRow_ext hO2 hX9
          rw [htl] at hO9
          refine W.storeO rfl rfl rfl hO9 (by omega) (by kernel_rfl) ?_
          intro w10 hc10 hO10
          rw [← List.map_set, ← hpe, turnP_set hkl.2] at hO10
          have hO10 : Ow w10 w.heap.size 5 (.slice (some ⟨gb, 0, none⟩) b.length cb) (turnP key b (32 * j + (k + 1))) := by
            show World.ownsRow _ _ _ _ _ _ _
            rw [turnP_length]; exact hO10
          refine W.nil ?_
          refine At.blockNormal ?_
          refine At.thenCode ?_
          refine C.region ?_
          refine W.move rfl rfl ?_
          first | refine W.addI rfl rfl (by omega) rfl ?_ | refine W.addW rfl rfl rfl ?_
          refine W.assign rfl rfl ?_
          refine W.nil ?_
          refine At.thenRound (k + 1) (Sub.cons (rfl) (Sub.cons (rfl) (Sub.cons (rfl) (Sub.cons (rfl) (Sub.cons (look_eq rfl (iV (by omega))) (Sub.nil)))))) (show Ext w _ ∧ (k + 1) ≤ 32 ∧ 32 * j + (k + 1) ≤ b.length ∧ Bk _ g2 (key.map byteV) ∧ Bk _ g7 (K.map byteV) ∧ Ow _ w.heap.size 5 (.slice (some ⟨gb, 0, none⟩) b.length cb) (turnP key b (32 * j + (k + 1))) from ?_) (show 32 - (k + 1) < 32 - k from ?_)
          · exact ⟨(hX2'.ext hX9).news hc10 (fun q hq => Or.inr (by omega)), by omega, by omega, (hB2'.ext hX9).chg hc10 (fun h => hgb2 h.symm), (hB7'.ext hX9).chg hc10 (by omega), hO10⟩
          · omega
      · refine C.exit ?_
        refine At.thenExit ?_
        refine At.thenExit ?_
        refine At.blockSelf ?_
        refine At.blockNormal ?_
        refine At.thenCode ?_
        refine C.region ?_
        refine W.move rfl rfl ?_
        first | refine W.addI rfl rfl (by omega) rfl ?_ | refine W.addW rfl rfl rfl ?_
        refine W.assign rfl rfl ?_
        refine W.nil ?_
        refine At.thenRound (j + 1) (Sub.cons (rfl) (Sub.cons (look_eq rfl (by rw [hgb])) (Sub.cons (look_eq rfl (iV (by omega))) (Sub.nil)))) (show Ext w _ ∧ 32 * (j + 1) < n + 32 ∧ Bk _ g2 (key.map byteV) ∧ Ow _ w.heap.size 5 (.slice bo b.length cb) (turnP key b (32 * (j + 1))) from ?_) (show n + 32 - 32 * (j + 1) < n + 32 - 32 * j from ?_)
        · refine ⟨hX2', by omega, hB2', ?_⟩
          rw [hgb]
          by_cases h32 : k = 32
          · subst h32; exact hO2
          · have e : turnP key b (32 * (j + 1)) = turnP key b (32 * j + k) := by
              rw [turnP_full (show b.length ≤ 32 * (j + 1) by omega), turnP_full (show b.length ≤ 32 * j + k by omega)]
            rw [e]; exact hO2
        · omega
  · refine C.exit ?_
    refine At.thenExit ?_
    refine At.thenExit ?_
    refine At.blockSelf ?_
    refine At.thenCode ?_
    refine C.seq ?_
    refine C.region ?_
    refine W.move rfl rfl ?_
    refine W.assign rfl rfl ?_
    refine W.nil ?_
    refine At.thenCode ?_
    refine C.ret ?_
    refine At.ret1 Try.results31 rfl ?_
    rw [turnP_full (show b.length ≤ 32 * j by omega)] at hO1
    exact ⟨hO1, hX1⟩
end Go.Proofs.Ytkjmllohbohliaa.Seal
