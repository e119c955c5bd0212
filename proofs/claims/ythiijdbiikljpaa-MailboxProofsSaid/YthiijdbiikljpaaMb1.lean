/- Package mailbox: records. -/
import Derived.Test.YthiijdbiikljpaaMb0
import Derived.Test.YthiijdbiikljpaaKm
import Derived.Test.YthiijdbiikljpaaLet1
import Derived.Test.YthiijdbiikljpaaRSha
import Derived.Test.YthiijdbiikljpaaCodF
namespace Go.Proofs.Ythiijdbiikljpaa.Mbx
open Go Go.RowKit Go.Proofs.Ythiijdbiikljpaa.KW Go.Proofs.Ythiijdbiikljpaa.Words Go.Proofs.Ythiijdbiikljpaa.Sha Go.Proofs.Ythiijdbiikljpaa.RSha Go.Proofs.Ythiijdbiikljpaa.Grp Go.Proofs.Ythiijdbiikljpaa.Cod Go.Proofs.Ythiijdbiikljpaa.Disk
set_option linter.unusedVariables false
set_option linter.unusedSimpArgs false
set_option maxRecDepth 100000
theorem Equal_ok (ao : Option Addr) (c : Nat) (a : List UInt8) (bo : Option Addr) (cb : Nat) (b : List UInt8) (w : World) (hS : Bs w ao c a) (hT : Bs w bo cb b) :
    Ct Try.prog 43 #[.slice ao a.length c, .slice bo b.length cb] w (fun v w' => v = .bool (decide (a = b)) ∧ w = w') := by
  refine Ct.enter [(0, .slice ao a.length c), (1, .slice bo b.length cb)] Try.func43 rfl rfl rfl rfl ?_
  refine C.seq ?_
  refine C.region ?_
  refine W.assign rfl rfl ?_
  refine W.nil ?_
  refine At.thenCode ?_
  refine C.seq ?_
  refine C.region ?_
  refine W.move rfl rfl ?_
  refine W.bytesStr Try.underlying51 Try.underlying5 Try.underlying9 rfl hS rfl ?_
  refine W.move rfl rfl ?_
  refine W.bytesStr Try.underlying51 Try.underlying5 Try.underlying9 rfl hT rfl ?_
  refine W.eqlStr (a := a) (b := b) rfl rfl rfl ?_
  refine W.assign rfl rfl ?_
  refine W.nil ?_
  refine At.thenCode ?_
  refine C.ret ?_
  refine At.ret1 Try.results43 rfl ?_
  exact ⟨rfl, rfl⟩
theorem bss_three {w : World} {ao : Option Addr} {c : Nat} {v1 v2 v3 : Value} {x y z : List UInt8} (h : Sl w ao 3 c 1 [v1, v2, v3]) (h1 : Rep w v1 x) (h2 : Rep w v2 y) (h3 : Rep w v3 z) : Bss w ao c [x, y, z] := by
  refine ⟨[v1, v2, v3], h, fun i hi => ?_⟩
  match i, hi with
  | 0, _ => exact ⟨v1, rfl, h1⟩
  | 1, _ => exact ⟨v2, rfl, h2⟩
  | 2, _ => exact ⟨v3, rfl, h3⟩
theorem three_one (a1 : Option Addr) (n1 c1 : Nat) (a2 : Option Addr) (n2 c2 : Nat) (a3 : Option Addr) (n3 c3 : Nat) : ∀ u ∈ ([.slice a1 n1 c1, .slice a2 n2 c2, .slice a3 n3 c3] : List Value), u.oneCell' = true := by
  intro u hu
  simp only [List.mem_cons, List.not_mem_nil, or_false] at hu
  rcases hu with rfl | rfl | rfl <;> rfl
theorem sum8_bs {w : World} {g : Nat} {x : List UInt8} (h : Bk w g ((shaV x).map byteV)) : Bs w (some ⟨g, 0, none⟩) 32 (sum8 x) := by
  have := Bk.bs (o := 0) (xs := sum8 x) h (by rw [List.drop_zero, sum8_length]; unfold sum8; rw [List.map_take])
  exact ⟨by rw [sum8_length]; decide, this.len, fun e => (by cases e), this.at_⟩
/-- What a run of bytes is, cut out of bytes that read. -/
theorem Bs.part {w : World} {ao : Option Addr} {c lo hi : Nat} {xs : List UInt8} (h1 : lo ≤ hi) (h2 : hi ≤ xs.length) (h : Sl w ao (hi - lo) c 1 (((xs.map byteV).drop (lo * 1)).take ((hi - lo) * 1))) : Bs w ao c ((xs.drop lo).take (hi - lo)) := by
  rw [Nat.mul_one, Nat.mul_one, ← List.map_drop, ← List.map_take] at h
  show Sl _ _ _ _ _ _
  rw [List.length_take, List.length_drop, Nat.min_eq_left (by omega)]
  exact h
theorem record_ok (a : Option Addr) (c : Nat) (b : List UInt8) (w : World) (hb : Bs w a c b) (hl : b.length ≤ 1000000) :
    Ct Try.prog 56 #[.slice a b.length c] w (fun v w' => Ow w' w.heap.size 5 v (recB b) ∧ Ext w w') := by
  refine Ct.enter [(0, .slice a b.length c)] Try.func56 rfl rfl rfl rfl ?_
  have hsl := shaV_length b
  have hs8 := sum8_length b
  refine C.seq ?_
  refine C.region ?_
  refine W.assign rfl rfl ?_
  refine W.nil ?_
  refine At.thenCode ?_
  refine C.seq ?_
  refine C.region ?_
  refine W.move rfl rfl ?_
  refine W.call Try.call42 rfl (Sum_ok a c b _ hb hl) rfl ?_
  rintro v5 w5 ⟨rfl, hX5⟩
  refine W.alloc (z := .agg (List.replicate 32 (byteV 0)).toArray) (List.replicate 32 (byteV 0)) (by kernel_rfl) rfl rfl ?_
  intro g3 w3 hg3 hX3 hB3
  refine W.storeA ((shaV b).map byteV) rfl rfl hB3 (by rw [List.length_map, hsl]; rfl) (by rw [List.length_map, hsl]; kernel_rfl) (bytes_oneCell _) ?_
  intro w4 hc4 hB4
  have hs5 := hX5.size
  have hX4 : Ext w w4 := (hX5.ext hX3).news hc4 fun k hk => Or.inr (by omega)
  refine W.nil ?_
  refine At.thenCode ?_
  refine C.seq ?_
  refine C.regionAny 9 ((fun v w => v = .slice a b.length c) :: (fun v w => v = .int .i64 (b.length : Int)) :: (fun v w => v = .int .u32 (b.length : Int)) :: (fun v w => Rep w v (be32 b.length)) :: (fun v w => v = .slice (some ⟨g3, 0, none⟩) 8 32) :: (fun v w => v = .slice a b.length c) :: (fun v w => ∃ ao c', v = .slice ao 3 c' ∧ Bss w ao c' [be32 b.length, sum8 b, b]) :: (fun v w => Ow w w4.heap.size 5 v (recB b)) :: (fun v w => Ow w w4.heap.size 5 v (recB b)) :: []) [(0, .slice a b.length c), (3, .pointer (some ⟨g3, 0, none⟩))] [] (Sub.cons (rfl) (Sub.cons (rfl) (Sub.nil))) (Sub.nil) (Sub.cons (rfl) (Sub.cons (rfl) (Sub.nil))) (by kernel_rfl) rfl rfl rfl (And.intro (fun _ _ _ h _ => h) (And.intro (fun _ _ _ h _ => h) (And.intro (fun _ _ _ h _ => h) (And.intro (fun _ _ _ h g => Rep.ext h g) (And.intro (fun _ _ _ h _ => h) (And.intro (fun _ _ _ h _ => h) (And.intro (fun _ _ _ ⟨ao, c', e, h⟩ g => ⟨ao, c', e, Bss.ext h g⟩) (And.intro (fun _ _ _ h g => ownsRow_ext h g) (And.intro (fun _ _ _ h g => ownsRow_ext h g) (trivial)))))))))) ?_ ?_
  · refine And.intro ?_ ?_
    · intro L_ wr hX_ hs_ hf_ hd_
      refine W.step [(0, _)] (Sub.cons (hs_ _ _ rfl) (Sub.refl _)) ?_
      refine W.move rfl rfl ?_
      refine W.nil ?_
      exact At.step (Ext.refl _) rfl
    refine And.intro ?_ ?_
    · intro L_ wr hX_ hs_ hf_ hd_
      obtain ⟨v0, e0, r0⟩ := hd_ 0 rfl
      obtain rfl : (.slice a b.length c : Value) = v0 := Eq.symm r0
      refine W.step [(6, _)] (Sub.cons (e0 _ rfl) (Sub.refl _)) ?_
      refine W.lenS rfl Try.underlying51 rfl ?_
      refine W.nil ?_
      exact At.step (Ext.refl _) rfl
    refine And.intro ?_ ?_
    · intro L_ wr hX_ hs_ hf_ hd_
      obtain ⟨v1, e1, r1⟩ := hd_ 1 rfl
      obtain rfl : (.int .i64 (b.length : Int) : Value) = v1 := Eq.symm r1
      refine W.step [(7, _)] (Sub.cons (e1 _ rfl) (Sub.refl _)) ?_
      refine W.convIN (M := 4294967296) rfl Try.underlying3 Try.underlying90 rfl rfl (by omega) rfl ?_
      refine W.nil ?_
      exact At.step (Ext.refl _) rfl
    refine And.intro ?_ ?_
    · intro L_ wr hX_ hs_ hf_ hd_
      obtain ⟨v2, e2, r2⟩ := hd_ 2 rfl
      obtain rfl : (.int .u32 (b.length : Int) : Value) = v2 := Eq.symm r2
      refine W.step [(8, _)] (Sub.cons (e2 _ rfl) (Sub.refl _)) ?_
      refine W.call Try.call58 rfl (Words.Put32_ok none 0 [] b.length _ (Sl.none _ _) (by simp)) rfl ?_
      rintro v9 w9 ⟨ho9, hX9⟩
      rw [List.nil_append] at ho9
      obtain ⟨a9, c9, rfl, hS9, _⟩ := ownsRow_form ho9
      refine W.nil ?_
      exact At.step hX9 ⟨_, _, rfl, hS9⟩
    refine And.intro ?_ ?_
    · intro L_ wr hX_ hs_ hf_ hd_
      refine W.step [(3, _)] (Sub.cons (hs_ _ _ rfl) (Sub.refl _)) ?_
      refine W.sliceAH (m := 8) X8 Try.underlying50 rfl rfl (by decide) (by decide) rfl ?_
      refine W.nil ?_
      exact At.step (Ext.refl _) rfl
    refine And.intro ?_ ?_
    · intro L_ wr hX_ hs_ hf_ hd_
      refine W.step [(0, _)] (Sub.cons (hs_ _ _ rfl) (Sub.refl _)) ?_
      refine W.move rfl rfl ?_
      refine W.nil ?_
      exact At.step (Ext.refl _) rfl
    refine And.intro ?_ ?_
    · intro L_ wr hX_ hs_ hf_ hd_
      obtain ⟨v3, e3, r3⟩ := hd_ 3 rfl
      obtain ⟨a3', c3', rfl, hb3'⟩ := r3
      obtain ⟨v4, e4, r4⟩ := hd_ 4 rfl
      obtain rfl : (.slice (some ⟨g3, 0, none⟩) 8 32 : Value) = v4 := Eq.symm r4
      obtain ⟨v5, e5, r5⟩ := hd_ 5 rfl
      obtain rfl : (.slice a b.length c : Value) = v5 := Eq.symm r5
      refine W.step [(9, _), (10, _), (11, _)] (Sub.cons (e3 _ rfl) (Sub.cons (e4 _ rfl) (Sub.cons (e5 _ rfl) (Sub.refl _)))) ?_
      refine W.litV [.slice a3' (be32 b.length).length c3', .slice (some ⟨g3, 0, none⟩) 8 32, .slice a b.length c] EB Try.underlying134 rfl rfl (three_one _ _ _ _ _ _ _ _ _) rfl rfl rfl ?_
      intro g12 w12 hg12 hX12 _ hs12
      have hbs12 := bss_three hs12 (x := be32 b.length) (y := sum8 b) (z := b) ⟨_, _, rfl, hb3'.ext hX12⟩ ⟨_, _, by rw [hs8], (sum8_bs (hB4.ext hX_)).ext hX12⟩ ⟨_, _, rfl, ((hb.ext hX4).ext hX_).ext hX12⟩
      refine W.nil ?_
      exact At.step hX12 ⟨_, _, rfl, hbs12⟩
    refine And.intro ?_ ?_
    · intro L_ wr hX_ hs_ hf_ hd_
      obtain ⟨v6, e6, r6⟩ := hd_ 6 rfl
      obtain ⟨a6, c6, rfl, hb6⟩ := r6
      refine W.step [(12, _)] (Sub.cons (e6 _ rfl) (Sub.refl _)) ?_
      refine W.call Try.call76 rfl (Let.Concat_ok _ _ [be32 b.length, sum8 b, b] _ hb6 (by show 3 ≤ 1000000; decide) (by simp only [Let.catL, List.flatten_cons, List.flatten_nil, List.length_append, be32_length, hs8, List.length_nil]; omega)) rfl ?_
      rintro v13 w13 ⟨ho13, hX13⟩
      have ho13 : Ow w13 wr.heap.size 5 v13 (recB b) := by
        have := ho13
        rwa [show Let.catL [be32 b.length, sum8 b, b] = recB b from by simp [Let.catL, recB]] at this
      refine W.nil ?_
      exact At.step hX13 (ownsRow_base ho13 hX_.size)
    refine And.intro ?_ ?_
    · intro L_ wr hX_ hs_ hf_ hd_
      obtain ⟨v7, e7, r7⟩ := hd_ 7 rfl
      refine W.step [(13, _)] (Sub.cons (e7 _ rfl) (Sub.refl _)) ?_
      refine W.assign rfl rfl ?_
      refine W.nil ?_
      exact At.step (Ext.refl _) r7
    exact trivial
  · intro L_ wr hX2 hs_ hv_
    obtain ⟨v8, e8, r8⟩ := hv_ 8 (by decide)
    refine W.weaken (l' := [(2, _), (0, _), (3, _)]) (Sub.cons (e8 _ rfl) (Sub.cons (hs_ _ _ rfl) (Sub.cons (hs_ _ _ rfl) (Sub.nil)))) ?_
    refine W.nil ?_
    refine At.thenCode ?_
    refine C.ret ?_
    refine At.ret1 Try.results56 rfl ?_
    exact ⟨ownsRow_base r8 hX4.size, hX4.ext hX2⟩
/-- What 'next' tells. -/
def NextR (w : World) (q : Option Addr) (v : Value) (r : Option (List UInt8)) : Prop := ∃ v1, v = .tuple #[v1, .bool r.isSome] ∧ ∀ x, r = some x → ∃ ao c, v1 = .slice ao x.length c ∧ Bs w ao c x ∧ ∀ ad, ao = some ad → ∃ a, q = some a ∧ ad.block = a.block
theorem rec1_parts (b : List UInt8) (i : Nat) (hi : i ≤ b.length) : ((b.drop i).length = b.length - i) ∧ (getE b i 4 = 0 → i + 4 ≤ b.length ∧ getV b i 4 = beNat ((b.drop i).take 4)) ∧ (getE b i 4 ≠ 0 → b.length < i + 4) := by
  refine ⟨List.length_drop, fun h => ?_, fun h => ?_⟩
  · have := getE_0.1 h
    refine ⟨by omega, ?_⟩
    unfold getV
    rw [if_pos h]; rfl
  · rcases Nat.lt_or_ge b.length (i + 4) with h1 | h1
    · exact h1
    · exact absurd (getE_0.2 ⟨by omega, by omega⟩) h
theorem next_ok (q : Option Addr) (c : Nat) (b : List UInt8) (i : Nat) (w : World) (hb : Bs w q c b) (hl : b.length ≤ 1000000) (hi : i ≤ b.length) :
    Ct Try.prog 27 #[.slice q b.length c, .int .i64 (i : Int)] w (fun v w' => NextR w' q v (rec1 (b.drop i)) ∧ Ext w w') := by
  refine Ct.enter [(0, .slice q b.length c), (1, .int .i64 (i : Int))] Try.func27 rfl rfl rfl rfl ?_
  obtain ⟨hd, hp0, hp1⟩ := rec1_parts b i hi
  obtain ⟨n, hn⟩ : ∃ n, n = getV b i 4 := ⟨_, rfl⟩
  have hnl := getV_lt b i 4
  rw [← hn] at hnl hp0
  refine C.seq ?_
  refine C.region ?_
  refine W.assign rfl rfl ?_
  refine W.assign rfl rfl ?_
  refine W.nil ?_
  refine At.thenCode ?_
  refine C.seq ?_
  refine C.region ?_
  refine W.move rfl rfl ?_
  refine W.move rfl rfl ?_
  refine W.call Try.call41 rfl (Words.Get32_ok q c b i _ hb (by omega) (by omega)) rfl ?_
  rintro v13 w13 ⟨rfl, rfl⟩
  rw [← hn]
  refine W.move rfl rfl ?_
  refine W.extract rfl rfl rfl ?_
  refine W.extract rfl rfl rfl ?_
  refine W.assign rfl rfl ?_
  refine W.assign rfl rfl ?_
  refine W.nil ?_
  refine At.thenCode ?_
  refine C.seq ?_
  refine C.seq ?_
  refine C.region ?_
  refine W.move rfl rfl ?_
  refine W.neqI rfl rfl rfl ?_
  refine W.move rfl rfl ?_
  first | refine W.splitD (fun g18 => ?_) (fun g18 => ?_) | refine W.splitB (fun g18 => ?_) (fun g18 => ?_)
  · refine W.skips rfl rfl rfl rfl rfl rfl ?_
    refine W.skips rfl rfl rfl rfl rfl rfl ?_
    refine W.skips rfl rfl rfl rfl rfl rfl ?_
    refine W.skips rfl rfl rfl rfl rfl rfl ?_
    refine W.skips rfl rfl rfl rfl rfl rfl ?_
    refine W.pickT rfl rfl rfl ?_
    refine W.move rfl rfl ?_
    refine W.skips rfl rfl rfl rfl rfl rfl ?_
    refine W.skips rfl rfl rfl rfl rfl rfl ?_
    refine W.skips rfl rfl rfl rfl rfl rfl ?_
    refine W.skips rfl rfl rfl rfl rfl rfl ?_
    refine W.skips rfl rfl rfl rfl rfl rfl ?_
    refine W.skips rfl rfl rfl rfl rfl rfl ?_
    refine W.skips rfl rfl rfl rfl rfl rfl ?_
    refine W.skips rfl rfl rfl rfl rfl rfl ?_
    refine W.skips rfl rfl rfl rfl rfl rfl ?_
    refine W.pickT rfl rfl rfl ?_
    refine W.nil ?_
    refine At.thenCode ?_
    refine C.condT rfl ?_
    refine C.seq ?_
    refine C.region ?_
    refine W.assign rfl rfl ?_
    refine W.assign rfl rfl ?_
    refine W.nil ?_
    refine At.thenCode ?_
    refine C.ret ?_
    refine At.thenRet ?_
    refine At.ret2 Try.results27 rfl rfl ?_
    have hnone : rec1 (b.drop i) = none := by unfold rec1; rw [if_pos (by have := hp1 g18; omega)]
    rw [hnone]
    exact ⟨⟨_, rfl, fun x hx => by cases hx⟩, Ext.refl _⟩
  · have hE0 : getE b i 4 = 0 := by simpa using g18
    obtain ⟨hi4, hnv⟩ := hp0 hE0
    refine W.wants rfl rfl rfl rfl ?_
    refine W.move rfl rfl ?_
    refine W.wants rfl rfl rfl rfl ?_
    refine W.lenS rfl Try.underlying51 rfl ?_
    refine W.wants rfl rfl rfl rfl ?_
    refine W.move rfl rfl ?_
    refine W.wants rfl rfl rfl rfl ?_
    first | refine W.subI rfl rfl (by omega) rfl ?_ | refine W.subW rfl rfl rfl ?_
    refine W.wants rfl rfl rfl rfl ?_
    refine W.lssI rfl rfl rfl ?_
    refine W.pickF rfl rfl rfl ?_
    refine W.move rfl rfl ?_
    first | refine W.splitD (fun g25 => ?_) (fun g25 => ?_) | refine W.splitB (fun g25 => ?_) (fun g25 => ?_)
    · refine W.skips rfl rfl rfl rfl rfl rfl ?_
      refine W.skips rfl rfl rfl rfl rfl rfl ?_
      refine W.skips rfl rfl rfl rfl rfl rfl ?_
      refine W.skips rfl rfl rfl rfl rfl rfl ?_
      refine W.skips rfl rfl rfl rfl rfl rfl ?_
      refine W.skips rfl rfl rfl rfl rfl rfl ?_
      refine W.skips rfl rfl rfl rfl rfl rfl ?_
      refine W.skips rfl rfl rfl rfl rfl rfl ?_
      refine W.skips rfl rfl rfl rfl rfl rfl ?_
      refine W.pickT rfl rfl rfl ?_
      refine W.nil ?_
      refine At.thenCode ?_
      refine C.condT rfl ?_
      refine C.seq ?_
      refine C.region ?_
      refine W.assign rfl rfl ?_
      refine W.assign rfl rfl ?_
      refine W.nil ?_
      refine At.thenCode ?_
      refine C.ret ?_
      refine At.thenRet ?_
      refine At.ret2 Try.results27 rfl rfl ?_
      have hnone : rec1 (b.drop i) = none := by unfold rec1; rw [if_pos (by omega)]
      rw [hnone]
      exact ⟨⟨_, rfl, fun x hx => by cases hx⟩, Ext.refl _⟩
    · have hE0 : getE b i 4 = 0 := by simpa using g18
      obtain ⟨hi4, hnv⟩ := hp0 hE0
      refine W.wants rfl rfl rfl rfl ?_
      refine W.move rfl rfl ?_
      refine W.wants rfl rfl rfl rfl ?_
      refine W.lenS rfl Try.underlying51 rfl ?_
      refine W.wants rfl rfl rfl rfl ?_
      refine W.move rfl rfl ?_
      refine W.wants rfl rfl rfl rfl ?_
      first | refine W.subI rfl rfl (by omega) rfl ?_ | refine W.subW rfl rfl rfl ?_
      refine W.wants rfl rfl rfl rfl ?_
      first | refine W.subI rfl rfl (by omega) rfl ?_ | refine W.subW rfl rfl rfl ?_
      refine W.wants rfl rfl rfl rfl ?_
      refine W.convIN (M := 18446744073709551616) rfl Try.underlying3 Try.underlying41 rfl rfl (by omega) rfl ?_
      refine W.wants rfl rfl rfl rfl ?_
      refine W.move rfl rfl ?_
      refine W.wants rfl rfl rfl rfl ?_
      first | refine W.convU (M := 18446744073709551616) rfl Try.underlying90 Try.underlying41 rfl rfl (by omega) rfl ?_ | refine W.convUU (M := 18446744073709551616) rfl Try.underlying90 Try.underlying41 rfl rfl rfl ?_
      refine W.wants rfl rfl rfl rfl ?_
      refine W.lssU rfl rfl rfl ?_
      refine W.pickF rfl rfl rfl ?_
      refine W.nil ?_
      refine At.thenCode ?_
      first | refine C.condD rfl (fun c35 => ?_) (fun c35 => ?_) | refine C.cond rfl (fun c35 => ?_) (fun c35 => ?_)
      · refine C.seq ?_
        refine C.region ?_
        refine W.assign rfl rfl ?_
        refine W.assign rfl rfl ?_
        refine W.nil ?_
        refine At.thenCode ?_
        refine C.ret ?_
        refine At.thenRet ?_
        refine At.ret2 Try.results27 rfl rfl ?_
        have hnone : rec1 (b.drop i) = none := by
          unfold rec1
          by_cases h12 : (b.drop i).length < 12
          · rw [if_pos h12]
          · rw [if_neg h12, if_pos (by rw [← hnv]; omega)]
        rw [hnone]
        exact ⟨⟨_, rfl, fun x hx => by cases hx⟩, Ext.refl _⟩
      · have hn12 : i + 12 + n ≤ b.length := by omega
        obtain ⟨x, hx⟩ : ∃ x, x = ((b.drop i).drop 12).take n := ⟨_, rfl⟩
        have hx' : x = (b.drop (i + 12)).take n := by rw [hx, List.drop_drop]
        have hxl : x.length = n := by rw [hx', List.length_take, List.length_drop]; omega
        have hs8 := sum8_length x
        have hsl := shaV_length x
        have hrec : rec1 (b.drop i) = if sum8 x = (b.drop (i + 4)).take 8 then some x else none := by
          unfold rec1
          rw [if_neg (by omega), if_neg (by omega), ← hnv, ← hx, List.drop_drop]
        refine C.skip ?_
        refine At.thenCode ?_
        refine C.seq ?_
        refine C.region ?_
        refine W.move rfl rfl ?_
        refine W.move rfl rfl ?_
        first | refine W.addI rfl rfl (by omega) rfl ?_ | refine W.addW rfl rfl rfl ?_
        refine W.move rfl rfl ?_
        first | refine W.addI rfl rfl (by omega) rfl ?_ | refine W.addW rfl rfl rfl ?_
        refine W.move rfl rfl ?_
        first | refine W.convI rfl Try.underlying90 Try.underlying3 (by omega) rfl ?_ | refine W.conv rfl Try.underlying90 Try.underlying3 rfl ?_
        first | refine W.addI rfl rfl (by omega) rfl ?_ | refine W.addW rfl rfl rfl ?_
        refine W.slice (lo := i + 12) (hi := i + 12 + n) E8 Try.underlying51 rfl hb (.inr ⟨_, .i64, rfl, look_eq rfl (iV (by omega))⟩) (.inr ⟨_, .i64, rfl, look_eq rfl (iV (by omega))⟩) (by omega) hn12 rfl ?_
        intro ao44 c44 hS44 hb44
        have hS44' : Bs w ao44 c44 x := by
          have := Bs.part (by omega) hn12 hS44
          rwa [Nat.add_sub_cancel_left, ← hx'] at this
        rw [Nat.add_sub_cancel_left, ← hxl]
        refine W.assign rfl rfl ?_
        refine W.nil ?_
        refine At.thenCode ?_
        refine C.seq ?_
        refine C.region ?_
        refine W.move rfl rfl ?_
        refine W.call Try.call42 rfl (Sum_ok ao44 c44 x _ hS44' (by omega)) rfl ?_
        rintro v46 w46 ⟨rfl, hX46⟩
        refine W.alloc (z := .agg (List.replicate 32 (byteV 0)).toArray) (List.replicate 32 (byteV 0)) (by kernel_rfl) rfl rfl ?_
        intro g9 w9 hg9 hX9 hB9
        refine W.storeA ((shaV x).map byteV) rfl rfl hB9 (by rw [List.length_map, hsl]; rfl) (by rw [List.length_map, hsl]; kernel_rfl) (bytes_oneCell _) ?_
        intro w10 hc10 hB10
        have hs46 := hX46.size
        have hX10 : Ext w w10 := (hX46.ext hX9).news hc10 fun k hk => Or.inr (by omega)
        refine W.nil ?_
        refine At.thenCode ?_
        refine C.seq ?_
        refine C.regionAny 11 ((fun v w => v = .slice ao44 x.length c44) :: (fun v w => v = .slice (some ⟨g9, 0, none⟩) 8 32) :: (fun v w => v = .slice q b.length c) :: (fun v w => v = .int .i64 (i : Int)) :: (fun v w => v = .int .i64 ((i : Int) + 4)) :: (fun v w => v = .int .i64 (i : Int)) :: (fun v w => v = .int .i64 ((i : Int) + 12)) :: (fun v w => Rep w v ((b.drop (i + 4)).take 8)) :: (fun v w => v = .bool (decide (sum8 x = (b.drop (i + 4)).take 8))) :: (fun v w => v = .slice ao44 x.length c44) :: (fun v w => v = .bool (decide (sum8 x = (b.drop (i + 4)).take 8))) :: []) [(0, .slice q b.length c), (1, .int .i64 (i : Int)), (8, .slice ao44 x.length c44), (9, .pointer (some ⟨g9, 0, none⟩))] [] (Sub.cons (rfl) (Sub.cons (rfl) (Sub.cons (rfl) (Sub.cons (rfl) (Sub.nil))))) (Sub.nil) (Sub.cons (rfl) (Sub.cons (rfl) (Sub.cons (rfl) (Sub.cons (rfl) (Sub.nil))))) (by kernel_rfl) rfl rfl rfl (And.intro (fun _ _ _ h _ => h) (And.intro (fun _ _ _ h _ => h) (And.intro (fun _ _ _ h _ => h) (And.intro (fun _ _ _ h _ => h) (And.intro (fun _ _ _ h _ => h) (And.intro (fun _ _ _ h _ => h) (And.intro (fun _ _ _ h _ => h) (And.intro (fun _ _ _ h g => Rep.ext h g) (And.intro (fun _ _ _ h _ => h) (And.intro (fun _ _ _ h _ => h) (And.intro (fun _ _ _ h _ => h) (trivial)))))))))))) ?_ ?_
        · refine And.intro ?_ ?_
          · intro L_ wr hX_ hs_ hf_ hd_
            refine W.step [(8, _)] (Sub.cons (hs_ _ _ rfl) (Sub.refl _)) ?_
            refine W.move rfl rfl ?_
            refine W.nil ?_
            exact At.step (Ext.refl _) rfl
          refine And.intro ?_ ?_
          · intro L_ wr hX_ hs_ hf_ hd_
            refine W.step [(9, _)] (Sub.cons (hs_ _ _ rfl) (Sub.refl _)) ?_
            refine W.sliceAH (m := 8) X8 Try.underlying50 rfl rfl (by decide) (by decide) rfl ?_
            refine W.nil ?_
            exact At.step (Ext.refl _) rfl
          refine And.intro ?_ ?_
          · intro L_ wr hX_ hs_ hf_ hd_
            refine W.step [(0, _)] (Sub.cons (hs_ _ _ rfl) (Sub.refl _)) ?_
            refine W.move rfl rfl ?_
            refine W.nil ?_
            exact At.step (Ext.refl _) rfl
          refine And.intro ?_ ?_
          · intro L_ wr hX_ hs_ hf_ hd_
            refine W.step [(1, _)] (Sub.cons (hs_ _ _ rfl) (Sub.refl _)) ?_
            refine W.move rfl rfl ?_
            refine W.nil ?_
            exact At.step (Ext.refl _) rfl
          refine And.intro ?_ ?_
          · intro L_ wr hX_ hs_ hf_ hd_
            obtain ⟨v3, e3, r3⟩ := hd_ 3 rfl
            obtain rfl : (.int .i64 (i : Int) : Value) = v3 := Eq.symm r3
            refine W.step [(50, _)] (Sub.cons (e3 _ rfl) (Sub.refl _)) ?_
            first | refine W.addI rfl rfl (by omega) rfl ?_ | refine W.addW rfl rfl rfl ?_
            refine W.nil ?_
            exact At.step (Ext.refl _) rfl
          refine And.intro ?_ ?_
          · intro L_ wr hX_ hs_ hf_ hd_
            refine W.step [(1, _)] (Sub.cons (hs_ _ _ rfl) (Sub.refl _)) ?_
            refine W.move rfl rfl ?_
            refine W.nil ?_
            exact At.step (Ext.refl _) rfl
          refine And.intro ?_ ?_
          · intro L_ wr hX_ hs_ hf_ hd_
            obtain ⟨v5, e5, r5⟩ := hd_ 5 rfl
            obtain rfl : (.int .i64 (i : Int) : Value) = v5 := Eq.symm r5
            refine W.step [(52, _)] (Sub.cons (e5 _ rfl) (Sub.refl _)) ?_
            first | refine W.addI rfl rfl (by omega) rfl ?_ | refine W.addW rfl rfl rfl ?_
            refine W.nil ?_
            exact At.step (Ext.refl _) rfl
          refine And.intro ?_ ?_
          · intro L_ wr hX_ hs_ hf_ hd_
            obtain ⟨v2, e2, r2⟩ := hd_ 2 rfl
            obtain rfl : (.slice q b.length c : Value) = v2 := Eq.symm r2
            obtain ⟨v4, e4, r4⟩ := hd_ 4 rfl
            obtain rfl : (.int .i64 ((i : Int) + 4) : Value) = v4 := Eq.symm r4
            obtain ⟨v6, e6, r6⟩ := hd_ 6 rfl
            obtain rfl : (.int .i64 ((i : Int) + 12) : Value) = v6 := Eq.symm r6
            refine W.step [(49, _), (51, _), (53, _)] (Sub.cons (e2 _ rfl) (Sub.cons (e4 _ rfl) (Sub.cons (e6 _ rfl) (Sub.refl _)))) ?_
            refine W.slice (lo := i + 4) (hi := i + 12) E8 Try.underlying51 rfl ((hb.ext hX10).ext hX_) (.inr ⟨_, .i64, rfl, look_eq rfl (iV (by omega))⟩) (.inr ⟨_, .i64, rfl, look_eq rfl (iV (by omega))⟩) (by omega) (by omega) rfl ?_
            intro ao54 c54 hS54 _
            refine W.nil ?_
            exact At.step (Ext.refl _) ⟨ao54, c54, by rw [List.length_take, List.length_drop, Nat.min_eq_left (by omega), show i + 12 - (i + 4) = 8 by omega], by have := Bs.part (by omega) (by omega) hS54; rwa [show i + 12 - (i + 4) = 8 by omega] at this⟩
          refine And.intro ?_ ?_
          · intro L_ wr hX_ hs_ hf_ hd_
            obtain ⟨v1, e1, r1⟩ := hd_ 1 rfl
            obtain rfl : (.slice (some ⟨g9, 0, none⟩) 8 32 : Value) = v1 := Eq.symm r1
            obtain ⟨v7, e7, r7⟩ := hd_ 7 rfl
            obtain ⟨a7, c7, rfl, hb7⟩ := r7
            refine W.step [(48, _), (54, _)] (Sub.cons (e1 _ rfl) (Sub.cons (e7 _ rfl) (Sub.refl _))) ?_
            have h8 := sum8_bs (hB10.ext hX_)
            have heq := Mbx.Equal_ok (some ⟨g9, 0, none⟩) 32 (sum8 x) a7 c7 ((b.drop (i + 4)).take 8) wr h8 hb7
            rw [hs8] at heq
            refine W.call Try.call43 rfl heq rfl ?_
            rintro v55 w55 ⟨rfl, rfl⟩
            refine W.nil ?_
            exact At.step (Ext.refl _) rfl
          refine And.intro ?_ ?_
          · intro L_ wr hX_ hs_ hf_ hd_
            obtain ⟨v0, e0, r0⟩ := hd_ 0 rfl
            obtain rfl : (.slice ao44 x.length c44 : Value) = v0 := Eq.symm r0
            refine W.step [(47, _)] (Sub.cons (e0 _ rfl) (Sub.refl _)) ?_
            refine W.assign rfl rfl ?_
            refine W.nil ?_
            exact At.step (Ext.refl _) rfl
          refine And.intro ?_ ?_
          · intro L_ wr hX_ hs_ hf_ hd_
            obtain ⟨v8, e8, r8⟩ := hd_ 8 rfl
            obtain rfl : (.bool (decide (sum8 x = (b.drop (i + 4)).take 8)) : Value) = v8 := Eq.symm r8
            refine W.step [(55, _)] (Sub.cons (e8 _ rfl) (Sub.refl _)) ?_
            refine W.assign rfl rfl ?_
            refine W.nil ?_
            exact At.step (Ext.refl _) rfl
          exact trivial
        · intro L_ wr hX6 hs_ hv_
          obtain ⟨v9, e9, r9⟩ := hv_ 9 (by decide)
          obtain rfl : (.slice ao44 x.length c44 : Value) = v9 := Eq.symm r9
          obtain ⟨v10, e10, r10⟩ := hv_ 10 (by decide)
          obtain rfl : (.bool (decide (sum8 x = (b.drop (i + 4)).take 8)) : Value) = v10 := Eq.symm r10
          refine W.weaken (l' := [(4, _), (5, _), (0, _), (1, _), (8, _), (9, _)]) (Sub.cons (e9 _ rfl) (Sub.cons (e10 _ rfl) (Sub.cons (hs_ _ _ rfl) (Sub.cons (hs_ _ _ rfl) (Sub.cons (hs_ _ _ rfl) (Sub.cons (hs_ _ _ rfl) (Sub.nil))))))) ?_
          refine W.nil ?_
          refine At.thenCode ?_
          refine C.ret ?_
          refine At.ret2 Try.results27 rfl rfl ?_
          rw [hrec]
          by_cases he : sum8 x = (b.drop (i + 4)).take 8
          · rw [if_pos he, decide_eq_true he]
            refine ⟨⟨_, rfl, fun y hy => ?_⟩, hX10.ext hX6⟩
            obtain rfl := Option.some.inj hy
            exact ⟨ao44, c44, rfl, (hS44'.ext hX10).ext hX6, hb44⟩
          · rw [if_neg he, decide_eq_false he]
            exact ⟨⟨_, rfl, fun y hy => by cases hy⟩, hX10.ext hX6⟩
end Go.Proofs.Ythiijdbiikljpaa.Mbx
