/- How an argument that reads as data is told to the walks. How arguments that lead into memory are told to the walks. How arguments that are structs, and slices of such, are told to the walks. -/
import Derived.Test.YthiijdbiikljpaaGreatZd
import Derived.Test.YthiijdbiikljpaaGreatZe
import Derived.Test.YthiijdbiikljpaaGreatZf
import Derived.Test.YthiijdbiikljpaaGreatZa
import Derived.ProofKit
import Derived.OpenShut
import Derived.ChangeSlices
import Derived.ChangeArms
import Derived.ChangeMaps5
import Derived.Deep.Slices
namespace Go.Proofs.YthiijdbiikljpaaGreat.Mbx
open Go Go.RowKit Go.Proofs.YthiijdbiikljpaaGreat.KW Go.Proofs.YthiijdbiikljpaaGreat.Words Go.Proofs.YthiijdbiikljpaaGreat.Sha Go.Proofs.YthiijdbiikljpaaGreat.RSha Go.Proofs.YthiijdbiikljpaaGreat.Grp Go.Proofs.YthiijdbiikljpaaGreat.Cod Go.Proofs.YthiijdbiikljpaaGreat.Disk
set_option linter.unusedVariables false
set_option linter.unusedSimpArgs false
set_option maxRecDepth 100000
theorem Equal_ok (ao : Option Addr) (c : Nat) (a : List UInt8) (bo : Option Addr) (cb : Nat) (b : List UInt8) (w : World) (hS : Bs w ao c a) (hT : Bs w bo cb b) :
   Ct Tryz.prog 57 #[.slice ao a.length c, .slice bo b.length cb] w (fun v w' => v = .bool (decide (a = b)) ∧ w = w') := by
 refine Ct.enter [(0, .slice ao a.length c), (1, .slice bo b.length cb)] Tryz.func57 rfl rfl rfl rfl ?_
 refine C.seq (C.region (W.assign rfl rfl (W.nil (At.thenCode (C.seq (C.region (W.move rfl rfl ?_)))))))
 refine W.bytesStr Tryz.underlying22 Tryz.underlying5 Tryz.underlying9 rfl hS rfl ?_
 refine W.move rfl rfl ?_
 refine W.bytesStr Tryz.underlying22 Tryz.underlying5 Tryz.underlying9 rfl hT rfl ?_
 refine W.eqlStr (a := a) (b := b) rfl rfl rfl ?_
 refine W.assign rfl rfl (W.nil (At.thenCode (C.ret ?_)))
 refine At.ret1 Tryz.results57 rfl ?_
 exact ⟨rfl, rfl⟩
theorem bss_three {w : World} {ao : Option Addr} {c : Nat} {v1 v2 v3 : Value} {x y z : List UInt8} (h : Sl w ao 3 c 1 [v1, v2, v3]) (h1 : Rep w v1 x) (h2 : Rep w v2 y) (h3 : Rep w v3 z) : Bss w ao c [x, y, z] := by
 refine ⟨[v1, v2, v3], h, fun i hi => ?_⟩
 match i, hi with
 | 0, _ => exact ⟨v1, rfl, h1⟩
 | 1, _ => exact ⟨v2, rfl, h2⟩
 | 2, _ => exact ⟨v3, rfl, h3⟩
theorem three_one (a1 : Option Addr) (n1 c1 : Nat) (a2 : Option Addr) (n2 c2 : Nat) (a3 : Option Addr) (n3 c3 : Nat) : ∀ u ∈ ([.slice a1 n1 c1, .slice a2 n2 c2, .slice a3 n3 c3] : List Value), u.oneCell' = true := by
 intro u hu
 simp only [List.mem_cons, List.not_mem_nil, or_false] at hu
 rcases hu with rfl | rfl | rfl <;> rfl
theorem sum8_bs {w : World} {g : Nat} {x : List UInt8} (h : Bk w g ((shaV x).map byteV)) : Bs w (some ⟨g, 0, none⟩) 32 (sum8 x) := by
 have := Bk.bs (o := 0) (xs := sum8 x) h (by rw [List.drop_zero, sum8_length]; unfold sum8; rw [List.map_take])
 exact ⟨by rw [sum8_length]; decide, this.len, fun e => (by cases e), this.at_⟩
theorem Bs.part {w : World} {ao : Option Addr} {c lo hi : Nat} {xs : List UInt8} (h1 : lo ≤ hi) (h2 : hi ≤ xs.length) (h : Sl w ao (hi - lo) c 1 (((xs.map byteV).drop (lo * 1)).take ((hi - lo) * 1))) : Bs w ao c ((xs.drop lo).take (hi - lo)) := by
 rw [Nat.mul_one, Nat.mul_one, ← List.map_drop, ← List.map_take] at h
 show Sl _ _ _ _ _ _
 rw [List.length_take, List.length_drop, Nat.min_eq_left (by omega)]
 exact h
theorem record_ok (a : Option Addr) (c : Nat) (b : List UInt8) (w : World) (hb : Bs w a c b) (hl : b.length ≤ 1000000) :
   Ct Tryz.prog 72 #[.slice a b.length c] w (fun v w' => Ow w' w.heap.size 5 v (recB b) ∧ Ext w w') := by
 refine Ct.enter [(0, .slice a b.length c)] Tryz.func72 rfl rfl rfl rfl ?_
 have hsl := shaV_length b
 have hs8 := sum8_length b
 refine C.seq (C.region (W.assign rfl rfl (W.nil (At.thenCode (C.seq (C.region (W.move rfl rfl ?_)))))))
 refine W.call Tryz.call56 rfl (Sum_ok a c b _ hb hl) rfl ?_
 rintro v5 w5 ⟨rfl, hX5⟩
 refine W.alloc (z := .agg (List.replicate 32 (byteV 0)).toArray) (List.replicate 32 (byteV 0)) (by kernel_rfl) rfl rfl ?_
 intro g3 w3 hg3 hX3 hB3
 refine W.storeA ((shaV b).map byteV) rfl rfl hB3 (by rw [List.length_map, hsl]; rfl) (by rw [List.length_map, hsl]; kernel_rfl) (bytes_oneCell _) ?_
 intro w4 hc4 hB4
 have hs5 := hX5.size
 have hX4 : Ext w w4 := (hX5.ext hX3).news hc4 fun k hk => Or.inr (by omega)
 refine W.nil (At.thenCode (C.seq ?_))
 refine C.regionAny 9 (E_ (.slice a b.length c) :: E_ (.int .i64 (b.length : Int)) :: E_ (.int .u32 (b.length : Int)) :: (fun v w => Rep w v (be32 b.length)) :: E_ (.slice (some ⟨g3, 0, none⟩) 8 32) :: E_ (.slice a b.length c) :: (fun v w => ∃ ao c', v = .slice ao 3 c' ∧ Bss w ao c' [be32 b.length, sum8 b, b]) :: (fun v w => Ow w w4.heap.size 5 v (recB b)) :: (fun v w => Ow w w4.heap.size 5 v (recB b)) :: []) [(0, .slice a b.length c), (3, .pointer (some ⟨g3, 0, none⟩))] [] (sc rfl (sc rfl (Sub.nil))) (Sub.nil) (sc rfl (sc rfl (Sub.nil))) (by kernel_rfl) rfl rfl rfl (sN (sN (sN (sM (fun _ _ _ h g => Rep.ext h g) (sN (sN (sM (fun _ _ _ ⟨ao, c', e, h⟩ g => ⟨ao, c', e, Bss.ext h g⟩) (sM (fun _ _ _ h g => ownsRow_ext h g) (sM (fun _ _ _ h g => ownsRow_ext h g) (trivial)))))))))) ?_ ?_
 refine And.intro (mB rfl rfl (fun _ => rfl) rfl) ?_
 refine And.intro ?_ ?_
 intro L_ wr hX_ hs_ hf_ hd_
 obtain ⟨_, e0, rfl⟩ := hd_ 0 rfl
 exact W.s1 (e0 _ rfl) (W.lenS rfl Tryz.underlying22 rfl (W.e0 rfl))
 refine And.intro ?_ ?_
 intro L_ wr hX_ hs_ hf_ hd_
 obtain ⟨_, e1, rfl⟩ := hd_ 1 rfl
 refine W.s1 (e1 _ rfl) ?_
 refine W.convIN (M := 4294967296) rfl Tryz.underlying3 Tryz.underlying101 rfl rfl (by omega) rfl ?_
 exact W.e0 rfl
 refine And.intro ?_ ?_
 intro L_ wr hX_ hs_ hf_ hd_
 obtain ⟨_, e2, rfl⟩ := hd_ 2 rfl
 refine W.s1 (e2 _ rfl) ?_
 refine W.call Tryz.call84 rfl (Words.Put32_ok none 0 [] b.length _ (Sl.none _ _) (by simp)) rfl ?_
 rintro v9 w9 ⟨ho9, hX9⟩
 rw [List.nil_append] at ho9
 obtain ⟨a9, c9, rfl, hS9, _⟩ := ownsRow_form ho9
 exact W.e1 hX9 ⟨_, _, rfl, hS9⟩
 refine And.intro ?_ ?_
 intro L_ wr hX_ hs_ hf_ hd_
 refine W.s1 (hs_ 3 _ rfl) ?_
 refine W.sliceAH (m := 8) X8 Tryz.underlying43 rfl rfl (by decide) (by decide) rfl ?_
 exact W.e0 rfl
 refine And.intro (mB rfl rfl (fun _ => rfl) rfl) ?_
 refine And.intro ?_ ?_
 intro L_ wr hX_ hs_ hf_ hd_
 obtain ⟨v3, e3, r3⟩ := hd_ 3 rfl
 obtain ⟨a3', c3', rfl, hb3'⟩ := r3
 obtain ⟨_, e4, rfl⟩ := hd_ 4 rfl
 obtain ⟨_, e5, rfl⟩ := hd_ 5 rfl
 refine W.s3 (e3 _ rfl) (e4 _ rfl) (e5 _ rfl) ?_
 refine W.litV [.slice a3' (be32 b.length).length c3', .slice (some ⟨g3, 0, none⟩) 8 32, .slice a b.length c] EB Tryz.underlying162 rfl rfl (three_one _ _ _ _ _ _ _ _ _) rfl rfl rfl ?_
 intro g12 w12 hg12 hX12 _ hs12
 have hbs12 := bss_three hs12 (x := be32 b.length) (y := sum8 b) (z := b) ⟨_, _, rfl, hb3'.ext hX12⟩ ⟨_, _, by rw [hs8], (sum8_bs (hB4.ext hX_)).ext hX12⟩ ⟨_, _, rfl, ((hb.ext hX4).ext hX_).ext hX12⟩
 exact W.e1 hX12 ⟨_, _, rfl, hbs12⟩
 refine And.intro ?_ ?_
 intro L_ wr hX_ hs_ hf_ hd_
 obtain ⟨v6, e6, r6⟩ := hd_ 6 rfl
 obtain ⟨a6, c6, rfl, hb6⟩ := r6
 refine W.s1 (e6 _ rfl) ?_
 refine W.call Tryz.call103 rfl (Let.Concat_ok _ _ [be32 b.length, sum8 b, b] _ hb6 (by show 3 ≤ 1000000; decide) (by simp only [Let.catL, List.flatten_cons, List.flatten_nil, List.length_append, be32_length, hs8, List.length_nil]; omega)) rfl ?_
 rintro v13 w13 ⟨ho13, hX13⟩
 have ho13 : Ow w13 wr.heap.size 5 v13 (recB b) := by
   have := ho13
   rwa [show Let.catL [be32 b.length, sum8 b, b] = recB b from by simp [Let.catL, recB]] at this
 exact W.e1 hX13 (ownsRow_base ho13 hX_.size)
 refine And.intro ?_ ?_
 intro L_ wr hX_ hs_ hf_ hd_
 obtain ⟨v7, e7, r7⟩ := hd_ 7 rfl
 refine W.s1 (e7 _ rfl) (W.assign rfl rfl ?_)
 exact W.e0 r7
 exact trivial
 intro L_ wr hX2 hs_ hv_
 obtain ⟨v8, e8, r8⟩ := hv_ 8 (by decide)
 refine W.weaken (l' := [(2, _), (0, _), (3, _)]) (sc (e8 _ rfl) (sc (hs_ _ _ rfl) (sc (hs_ _ _ rfl) (Sub.nil)))) ?_
 refine W.nil (At.thenCode (C.ret ?_))
 refine At.ret1 Tryz.results72 rfl ?_
 exact ⟨ownsRow_base r8 hX4.size, hX4.ext hX2⟩
def NextR (w : World) (q : Option Addr) (v : Value) (r : Option (List UInt8)) : Prop := ∃ v1, v = .tuple #[v1, .bool r.isSome] ∧ ∀ x, r = some x → ∃ ao c, v1 = .slice ao x.length c ∧ Bs w ao c x ∧ ∀ ad, ao = some ad → ∃ a, q = some a ∧ ad.block = a.block
theorem rec1_parts (b : List UInt8) (i : Nat) (hi : i ≤ b.length) : ((b.drop i).length = b.length - i) ∧ (getE b i 4 = 0 → i + 4 ≤ b.length ∧ getV b i 4 = beNat ((b.drop i).take 4)) ∧ (getE b i 4 ≠ 0 → b.length < i + 4) := by
 refine ⟨List.length_drop, fun h => ?_, fun h => ?_⟩
 have := getE_0.1 h
 refine ⟨by omega, ?_⟩
 unfold getV
 rw [if_pos h]; rfl
 rcases Nat.lt_or_ge b.length (i + 4) with h1 | h1
 exact h1
 exact absurd (getE_0.2 ⟨by omega, by omega⟩) h
theorem next_ok (q : Option Addr) (c : Nat) (b : List UInt8) (i : Nat) (w : World) (hb : Bs w q c b) (hl : b.length ≤ 1000000) (hi : i ≤ b.length) :
   Ct Tryz.prog 28 #[.slice q b.length c, .int .i64 (i : Int)] w (fun v w' => NextR w' q v (rec1 (b.drop i)) ∧ Ext w w') := by
 refine Ct.enter [(0, .slice q b.length c), (1, .int .i64 (i : Int))] Tryz.func28 rfl rfl rfl rfl ?_
 obtain ⟨hd, hp0, hp1⟩ := rec1_parts b i hi
 obtain ⟨n, hn⟩ : ∃ n, n = getV b i 4 := ⟨_, rfl⟩
 have hnl := getV_lt b i 4
 rw [← hn] at hnl hp0
 refine C.seq (C.region (W.assign rfl rfl (W.assign rfl rfl (W.nil (At.thenCode (C.seq (C.region (W.move rfl rfl (W.move rfl rfl ?_)))))))))
 refine W.call Tryz.call55 rfl (Words.Get32_ok q c b i _ hb (by omega) (by omega)) rfl ?_
 rintro v13 w13 ⟨rfl, rfl⟩
 rw [← hn]
 refine W.move rfl rfl (W.extract rfl rfl rfl (W.extract rfl rfl rfl (W.assign rfl rfl (W.assign rfl rfl (W.nil (At.thenCode (C.seq (C.seq (C.region (W.move rfl rfl (W.neqI rfl rfl rfl ?_)))))))))))
 refine W.move rfl rfl ?_
 refine W.splitD (fun g18 => ?_) (fun g18 => ?_)
 refine W.skips rfl rfl rfl rfl rfl rfl (W.skips rfl rfl rfl rfl rfl rfl (W.skips rfl rfl rfl rfl rfl rfl (W.skips rfl rfl rfl rfl rfl rfl (W.skips rfl rfl rfl rfl rfl rfl (W.pickT rfl rfl rfl (W.move rfl rfl (W.skips rfl rfl rfl rfl rfl rfl (W.skips rfl rfl rfl rfl rfl rfl (W.skips rfl rfl rfl rfl rfl rfl (W.skips rfl rfl rfl rfl rfl rfl (W.skips rfl rfl rfl rfl rfl rfl ?_)))))))))))
 refine W.skips rfl rfl rfl rfl rfl rfl (W.skips rfl rfl rfl rfl rfl rfl (W.skips rfl rfl rfl rfl rfl rfl (W.skips rfl rfl rfl rfl rfl rfl (W.pickT rfl rfl rfl (W.nil (At.thenCode ?_))))))
 refine C.condT rfl ?_
 refine C.seq (C.region (W.assign rfl rfl (W.assign rfl rfl (W.nil (At.thenCode (C.ret (At.thenRet ?_)))))))
 refine At.ret2 Tryz.results28 rfl rfl ?_
 have hnone : rec1 (b.drop i) = none := by unfold rec1; rw [if_pos (by have := hp1 g18; omega)]
 rw [hnone]
 exact ⟨⟨_, rfl, fun x hx => by cases hx⟩, Ext.refl _⟩
 have hE0 : getE b i 4 = 0 := by simpa using g18
 obtain ⟨hi4, hnv⟩ := hp0 hE0
 refine W.wants rfl rfl rfl rfl (W.move rfl rfl (W.wants rfl rfl rfl rfl (W.lenS rfl Tryz.underlying22 rfl (W.wants rfl rfl rfl rfl (W.move rfl rfl (W.wants rfl rfl rfl rfl ?_))))))
 refine W.subI rfl rfl (by omega) rfl ?_
 refine W.wants rfl rfl rfl rfl (W.lssI rfl rfl rfl (W.pickF rfl rfl rfl (W.move rfl rfl ?_)))
 refine W.splitD (fun g25 => ?_) (fun g25 => ?_)
 refine W.skips rfl rfl rfl rfl rfl rfl (W.skips rfl rfl rfl rfl rfl rfl (W.skips rfl rfl rfl rfl rfl rfl (W.skips rfl rfl rfl rfl rfl rfl (W.skips rfl rfl rfl rfl rfl rfl (W.skips rfl rfl rfl rfl rfl rfl (W.skips rfl rfl rfl rfl rfl rfl (W.skips rfl rfl rfl rfl rfl rfl (W.skips rfl rfl rfl rfl rfl rfl (W.pickT rfl rfl rfl (W.nil (At.thenCode ?_)))))))))))
 refine C.condT rfl ?_
 refine C.seq (C.region (W.assign rfl rfl (W.assign rfl rfl (W.nil (At.thenCode (C.ret (At.thenRet ?_)))))))
 refine At.ret2 Tryz.results28 rfl rfl ?_
 have hnone : rec1 (b.drop i) = none := by unfold rec1; rw [if_pos (by omega)]
 rw [hnone]
 exact ⟨⟨_, rfl, fun x hx => by cases hx⟩, Ext.refl _⟩
 have hE0 : getE b i 4 = 0 := by simpa using g18
 obtain ⟨hi4, hnv⟩ := hp0 hE0
 refine W.wants rfl rfl rfl rfl (W.move rfl rfl (W.wants rfl rfl rfl rfl (W.lenS rfl Tryz.underlying22 rfl (W.wants rfl rfl rfl rfl (W.move rfl rfl (W.wants rfl rfl rfl rfl ?_))))))
 refine W.subI rfl rfl (by omega) rfl ?_
 refine W.wants rfl rfl rfl rfl ?_
 refine W.subI rfl rfl (by omega) rfl ?_
 refine W.wants rfl rfl rfl rfl ?_
 refine W.convIN (M := 18446744073709551616) rfl Tryz.underlying3 Tryz.underlying83 rfl rfl (by omega) rfl ?_
 refine W.wants rfl rfl rfl rfl (W.move rfl rfl (W.wants rfl rfl rfl rfl ?_))
 refine W.convU (M := 18446744073709551616) rfl Tryz.underlying101 Tryz.underlying83 rfl rfl (by omega) rfl ?_
 refine W.wants rfl rfl rfl rfl ?_
 refine W.lssU rfl rfl rfl ?_
 refine W.pickF rfl rfl rfl (W.nil (At.thenCode ?_))
 refine C.condD rfl (fun c35 => ?_) (fun c35 => ?_)
 refine C.seq (C.region (W.assign rfl rfl (W.assign rfl rfl (W.nil (At.thenCode (C.ret (At.thenRet ?_)))))))
 refine At.ret2 Tryz.results28 rfl rfl ?_
 have hnone : rec1 (b.drop i) = none := by
   unfold rec1
   by_cases h12 : (b.drop i).length < 12
   rw [if_pos h12]
   rw [if_neg h12, if_pos (by rw [← hnv]; omega)]
 rw [hnone]
 exact ⟨⟨_, rfl, fun x hx => by cases hx⟩, Ext.refl _⟩
 have hn12 : i + 12 + n ≤ b.length := by omega
 obtain ⟨x, hx⟩ : ∃ x, x = ((b.drop i).drop 12).take n := ⟨_, rfl⟩
 have hx' : x = (b.drop (i + 12)).take n := by rw [hx, List.drop_drop]
 have hxl : x.length = n := by rw [hx', List.length_take, List.length_drop]; omega
 have hs8 := sum8_length x
 have hsl := shaV_length x
 have hrec : rec1 (b.drop i) = if sum8 x = (b.drop (i + 4)).take 8 then some x else none := by
   unfold rec1
   rw [if_neg (by omega), if_neg (by omega), ← hnv, ← hx, List.drop_drop]
 refine C.skip (At.thenCode (C.seq (C.region (W.move rfl rfl (W.move rfl rfl ?_)))))
 refine W.addI rfl rfl (by omega) rfl ?_
 refine W.move rfl rfl ?_
 refine W.addI rfl rfl (by omega) rfl ?_
 refine W.move rfl rfl ?_
 refine W.convI rfl Tryz.underlying101 Tryz.underlying3 (by omega) rfl ?_
 refine W.addI rfl rfl (by omega) rfl ?_
 refine W.slice (lo := i + 12) (hi := i + 12 + n) E8 Tryz.underlying22 rfl hb (.inr ⟨_, .i64, rfl, look_eq rfl (iV (by omega))⟩) (.inr ⟨_, .i64, rfl, look_eq rfl (iV (by omega))⟩) (by omega) hn12 rfl ?_
 intro ao44 c44 hS44 hb44
 have hS44' : Bs w ao44 c44 x := by
   have := Bs.part (by omega) hn12 hS44
   rwa [Nat.add_sub_cancel_left, ← hx'] at this
 rw [Nat.add_sub_cancel_left, ← hxl]
 refine W.assign rfl rfl (W.nil (At.thenCode (C.seq (C.region (W.move rfl rfl ?_)))))
 refine W.call Tryz.call56 rfl (Sum_ok ao44 c44 x _ hS44' (by omega)) rfl ?_
 rintro v46 w46 ⟨rfl, hX46⟩
 refine W.alloc (z := .agg (List.replicate 32 (byteV 0)).toArray) (List.replicate 32 (byteV 0)) (by kernel_rfl) rfl rfl ?_
 intro g9 w9 hg9 hX9 hB9
 refine W.storeA ((shaV x).map byteV) rfl rfl hB9 (by rw [List.length_map, hsl]; rfl) (by rw [List.length_map, hsl]; kernel_rfl) (bytes_oneCell _) ?_
 intro w10 hc10 hB10
 have hs46 := hX46.size
 have hX10 : Ext w w10 := (hX46.ext hX9).news hc10 fun k hk => Or.inr (by omega)
 refine W.nil (At.thenCode (C.seq ?_))
 refine C.regionAny 11 (E_ (.slice ao44 x.length c44) :: E_ (.slice (some ⟨g9, 0, none⟩) 8 32) :: E_ (.slice q b.length c) :: E_ (.int .i64 (i : Int)) :: E_ (.int .i64 ((i : Int) + 4)) :: E_ (.int .i64 (i : Int)) :: E_ (.int .i64 ((i : Int) + 12)) :: (fun v w => Rep w v ((b.drop (i + 4)).take 8)) :: E_ (.bool (decide (sum8 x = (b.drop (i + 4)).take 8))) :: E_ (.slice ao44 x.length c44) :: E_ (.bool (decide (sum8 x = (b.drop (i + 4)).take 8))) :: []) [(0, .slice q b.length c), (1, .int .i64 (i : Int)), (8, .slice ao44 x.length c44), (9, .pointer (some ⟨g9, 0, none⟩))] [] (sc rfl (sc rfl (sc rfl (sc rfl (Sub.nil))))) (Sub.nil) (sc rfl (sc rfl (sc rfl (sc rfl (Sub.nil))))) (by kernel_rfl) rfl rfl rfl (sN (sN (sN (sN (sN (sN (sN (sM (fun _ _ _ h g => Rep.ext h g) (sN (sN (sN (trivial)))))))))))) ?_ ?_
 refine And.intro (mB rfl rfl (fun _ => rfl) rfl) ?_
 refine And.intro ?_ ?_
 intro L_ wr hX_ hs_ hf_ hd_
 refine W.s1 (hs_ 9 _ rfl) ?_
 refine W.sliceAH (m := 8) X8 Tryz.underlying43 rfl rfl (by decide) (by decide) rfl ?_
 exact W.e0 rfl
 refine And.intro (mB rfl rfl (fun _ => rfl) rfl) ?_
 refine And.intro (mB rfl rfl (fun _ => rfl) rfl) ?_
 refine And.intro ?_ ?_
 intro L_ wr hX_ hs_ hf_ hd_
 obtain ⟨_, e3, rfl⟩ := hd_ 3 rfl
 refine W.s1 (e3 _ rfl) ?_
 refine W.addI rfl rfl (by omega) rfl ?_
 exact W.e0 rfl
 refine And.intro (mB rfl rfl (fun _ => rfl) rfl) ?_
 refine And.intro ?_ ?_
 intro L_ wr hX_ hs_ hf_ hd_
 obtain ⟨_, e5, rfl⟩ := hd_ 5 rfl
 refine W.s1 (e5 _ rfl) ?_
 refine W.addI rfl rfl (by omega) rfl ?_
 exact W.e0 rfl
 refine And.intro ?_ ?_
 intro L_ wr hX_ hs_ hf_ hd_
 obtain ⟨_, e2, rfl⟩ := hd_ 2 rfl
 obtain ⟨_, e4, rfl⟩ := hd_ 4 rfl
 obtain ⟨_, e6, rfl⟩ := hd_ 6 rfl
 refine W.s3 (e2 _ rfl) (e4 _ rfl) (e6 _ rfl) ?_
 refine W.slice (lo := i + 4) (hi := i + 12) E8 Tryz.underlying22 rfl ((hb.ext hX10).ext hX_) (.inr ⟨_, .i64, rfl, look_eq rfl (iV (by omega))⟩) (.inr ⟨_, .i64, rfl, look_eq rfl (iV (by omega))⟩) (by omega) (by omega) rfl ?_
 intro ao54 c54 hS54 _
 exact W.e0 ⟨ao54, c54, by rw [List.length_take, List.length_drop, Nat.min_eq_left (by omega), show i + 12 - (i + 4) = 8 by omega], by have := Bs.part (by omega) (by omega) hS54; rwa [show i + 12 - (i + 4) = 8 by omega] at this⟩
 refine And.intro ?_ ?_
 intro L_ wr hX_ hs_ hf_ hd_
 obtain ⟨_, e1, rfl⟩ := hd_ 1 rfl
 obtain ⟨v7, e7, r7⟩ := hd_ 7 rfl
 obtain ⟨a7, c7, rfl, hb7⟩ := r7
 refine W.s2 (e1 _ rfl) (e7 _ rfl) ?_
 have h8 := sum8_bs (hB10.ext hX_)
 have heq := Mbx.Equal_ok (some ⟨g9, 0, none⟩) 32 (sum8 x) a7 c7 ((b.drop (i + 4)).take 8) wr h8 hb7
 rw [hs8] at heq
 refine W.call Tryz.call57 rfl heq rfl ?_
 rintro v55 w55 ⟨rfl, rfl⟩
 exact W.e0 rfl
 refine And.intro ?_ ?_
 intro L_ wr hX_ hs_ hf_ hd_
 obtain ⟨_, e0, rfl⟩ := hd_ 0 rfl
 exact W.s1 (e0 _ rfl) (W.assign rfl rfl (W.e0 rfl))
 refine And.intro ?_ ?_
 intro L_ wr hX_ hs_ hf_ hd_
 obtain ⟨_, e8, rfl⟩ := hd_ 8 rfl
 exact W.s1 (e8 _ rfl) (W.assign rfl rfl (W.e0 rfl))
 exact trivial
 intro L_ wr hX6 hs_ hv_
 obtain ⟨_, e9, rfl⟩ := hv_ 9 (by decide)
 obtain ⟨_, e10, rfl⟩ := hv_ 10 (by decide)
 refine W.weaken (l' := [(4, _), (5, _), (0, _), (1, _), (8, _), (9, _)]) (sc (e9 _ rfl) (sc (e10 _ rfl) (sc (hs_ _ _ rfl) (sc (hs_ _ _ rfl) (sc (hs_ _ _ rfl) (sc (hs_ _ _ rfl) (Sub.nil))))))) ?_
 refine W.nil (At.thenCode (C.ret ?_))
 refine At.ret2 Tryz.results28 rfl rfl ?_
 rw [hrec]
 by_cases he : sum8 x = (b.drop (i + 4)).take 8
 rw [if_pos he, decide_eq_true he]
 refine ⟨⟨_, rfl, fun y hy => ?_⟩, hX10.ext hX6⟩
 obtain rfl := Option.some.inj hy
 exact ⟨ao44, c44, rfl, (hS44'.ext hX10).ext hX6, hb44⟩
 rw [if_neg he, decide_eq_false he]
 exact ⟨⟨_, rfl, fun y hy => by cases hy⟩, hX10.ext hX6⟩
end Go.Proofs.YthiijdbiikljpaaGreat.Mbx
namespace Go.Proofs.YthiijdbiikljpaaGreat.Mbx
open Go Go.RowKit Go.Proofs.YthiijdbiikljpaaGreat.KW Go.Proofs.YthiijdbiikljpaaGreat.Words Go.Proofs.YthiijdbiikljpaaGreat.Sha Go.Proofs.YthiijdbiikljpaaGreat.RSha Go.Proofs.YthiijdbiikljpaaGreat.Grp Go.Proofs.YthiijdbiikljpaaGreat.Cod Go.Proofs.YthiijdbiikljpaaGreat.Disk
open Go.WideMaps (KeyLaw)
set_option linter.unusedVariables false
set_option linter.unusedSimpArgs false
set_option maxRecDepth 100000
theorem laidOut : laidOutB Tryz.prog = true := by kernel_rfl
theorem lawP : KeyLaw Tryz.prog 125 := deep_law_laid laidOut (m := 2) (by decide) (of_decide_eq_true (by kernel_rfl)) (by kernel_rfl) (by kernel_rfl)
theorem lawK : KeyLaw Tryz.prog 43 := deep_law_laid laidOut (m := 2) (by decide) (of_decide_eq_true (by kernel_rfl)) (by kernel_rfl) (by kernel_rfl)
def InI (a : Int) : Prop := -9223372036854775808 ≤ a ∧ a ≤ 9223372036854775807
def placeV (r c : Int) : Value := .agg #[.int .i64 r, .int .i64 c]
theorem keyP {r c : Int} (hr : InI r) (hc : InI c) : ∃ l, keyOf Tryz.prog 125 (placeV r c) = some l := keyOf_pair Tryz.underlying125 (e := 3) rfl Tryz.underlying3 (by kernel_rfl) (by kernel_rfl) (by kernel_rfl) (of_decide_eq_true (by kernel_rfl)) hr hc
theorem keyK {k : List UInt8} (h : k.length = 32) : ∃ l, keyOf Tryz.prog 43 (keyV k) = some l := keyOf_bytes Tryz.underlying43 Tryz.underlying5 (by kernel_rfl) (by kernel_rfl) (by kernel_rfl) (of_decide_eq_true (by kernel_rfl)) h
theorem placeV_inj {r c r' c' : Int} (h : placeV r c = placeV r' c') : r = r' ∧ c = c' := by
 unfold placeV at h
 injection h with h
 simp at h
 exact h
theorem byteV_inj {a b : UInt8} (h : byteV a = byteV b) : a = b := by
 unfold byteV at h
 injection h with _ h
 exact UInt8.toNat_inj.1 (by omega)
theorem keyV_inj {a b : List UInt8} (h : keyV a = keyV b) : a = b := by
 unfold keyV at h
 injection h with h
 have h : a.map byteV = b.map byteV := by simpa using congrArg Array.toList h
 induction a generalizing b with
 | nil => cases b with
   | nil => rfl
   | cons y r => simp at h
 | cons x r ih => cases b with
   | nil => simp at h
   | cons y t =>
     simp only [List.map_cons, List.cons.injEq] at h
     rw [byteV_inj h.1, ih (by rw [h.2]) h.2]
theorem EHeld : Elem Tryz.prog 100 2 32 (.agg #[.int .i64 0, .slice none 0 0]) := Elem.of (by kernel_rfl) rfl rfl
def RHeld : RdT (Int × List UInt8) := fun A w cs p => ∃ v, cs = [.int .i64 p.1, v] ∧ RByt A w [v] p.2 ∧ InI p.1
theorem rHeld : RdOk RHeld := by
 refine ⟨?_, ?_, ?_⟩
 rintro A w w' cs x ⟨v, rfl, h, hx⟩ g; exact ⟨v, rfl, rByt.chg h g, hx⟩
 rintro A B w cs x ⟨v, rfl, h, hx⟩ g; exact ⟨v, rfl, rByt.new h g, hx⟩
 rintro A w cs x ⟨v, rfl, h, hx⟩ u hu
 simp only [List.mem_cons, List.not_mem_nil, or_false] at hu
 rcases hu with rfl | rfl
 rfl
 exact rByt.one h _ (by simp)
theorem OwE.chgS {α : Type} {R : RdT α} (hR : RdOk R) {A S : Nat → Prop} {w w' : World} {base e sz : Nat} {v : Value} {xs : List α} (h : OwE A w base e sz R v xs) (g : Chg S w w') (hS : ∀ k, S k → A k) (hn : ∀ k, v.ownBlock = some k → ¬ S k) : OwE A w' base e sz R v xs := by
 obtain ⟨cs, ho, he⟩ := h
 exact ⟨cs, ownsRow_chg ho g hn, fun i hi => hR.chg (he i hi) (g.mono fun k hk => Or.inl (hS k hk))⟩
abbrev Hs := List UInt8 → List (Int × List UInt8)
structure LM (w : World) (F Z X : Nat → Prop) (b : Nat) (f : Hs) (es : List MapEntry) (clock : Nat) : Prop where
  mp : Mp Tryz.prog 43 w b es clock
  sound : ∀ e ∈ es, ∃ name, name.length = 32 ∧ e.key = keyV name ∧ OwE X w 0 100 2 RHeld e.val (f name)
  whole : ∀ name, name.length = 32 → f name ≠ [] → ∃ e ∈ es, e.key = keyV name
  rows : ∀ e ∈ es, ∀ k, e.val.ownBlock = some k → F k ∧ X k ∧ ¬ Z k
  apart : es.Pairwise (fun e e' => ∀ k, e.val.ownBlock = some k → e'.val.ownBlock ≠ some k)
structure Sets (w : World) (F Z X : Nat → Prop) : Prop where
  zf : ∀ k, Z k → F k
  zx : ∀ k, Z k → X k
  fx : ∀ k, ¬ F k → X k
  lt : ∀ k, F k → k < w.heap.size
theorem LM.keep {w w' : World} {F Z X S : Nat → Prop} {b : Nat} {f : Hs} {es : List MapEntry} {clock : Nat} (h : LM w F Z X b f es clock) (hs : Sets w F Z X) (g : Chg S w w') (hS : ∀ k, S k → Z k ∨ ¬ F k) (hb : ¬ S b) : LM w' F Z X b f es clock := by
 refine ⟨h.mp.chg g hb, fun e he => ?_, h.whole, h.rows, h.apart⟩
 obtain ⟨name, h1, h2, h3⟩ := h.sound e he
 exact ⟨name, h1, h2, OwE.chgS rHeld h3 g (fun k hk => (hS k hk).elim (hs.zx k) (hs.fx k)) fun k hk hSk => by
   obtain ⟨r1, r2, r3⟩ := h.rows e he k hk
   rcases hS k hSk with h4 | h4
   exact r3 h4
   exact h4 r1⟩
structure AM (w : World) (b : Nat) (l : List BatD) (es : List MapEntry) (clock : Nat) : Prop where
  mp : Mp Tryz.prog 125 w b es clock
  are : es.map (fun e => (e.key, e.val)) = l.map (fun x => (placeV x.round x.chain, Value.bool true))
theorem AM.chg {S : Nat → Prop} {w w' : World} {b : Nat} {l : List BatD} {es : List MapEntry} {clock : Nat} (h : AM w b l es clock) (g : Chg S w w') (hb : ¬ S b) : AM w' b l es clock := ⟨h.mp.chg g hb, h.are⟩
theorem AM.len {w : World} {b : Nat} {l : List BatD} {es : List MapEntry} {clock : Nat} (h : AM w b l es clock) : es.length = l.length := by
 have := congrArg List.length h.are
 simpa using this
theorem AM.mem {w : World} {b : Nat} {l : List BatD} {es : List MapEntry} {clock : Nat} (h : AM w b l es clock) {e : MapEntry} (he : e ∈ es) : e.val = .bool true ∧ ∃ x ∈ l, e.key = placeV x.round x.chain := by
 have h1 : (e.key, e.val) ∈ l.map (fun x => (placeV x.round x.chain, Value.bool true)) := by rw [← h.are]; exact List.mem_map.2 ⟨e, he, rfl⟩
 obtain ⟨x, hx, hk⟩ := List.mem_map.1 h1
 injection hk with h2 h3
 exact ⟨h3.symm, x, hx, h2.symm⟩
theorem AM.has {w : World} {b : Nat} {l : List BatD} {es : List MapEntry} {clock : Nat} (h : AM w b l es clock) (r c : Int) : (∃ e ∈ es, e.key = placeV r c) ↔ hasL l r c = true := by
 constructor
 rintro ⟨e, he, hk⟩
 obtain ⟨_, x, hx, hx2⟩ := h.mem he
 obtain ⟨h1, h2⟩ := placeV_inj (hx2.symm.trans hk)
 unfold hasL
 exact List.any_eq_true.2 ⟨x, hx, decide_eq_true ⟨h1, h2⟩⟩
 intro hh
 obtain ⟨x, hx, hd⟩ := List.any_eq_true.1 hh
 obtain ⟨h1, h2⟩ := of_decide_eq_true hd
 have h3 : (placeV x.round x.chain, Value.bool true) ∈ es.map (fun e => (e.key, e.val)) := by rw [h.are]; exact List.mem_map.2 ⟨x, hx, rfl⟩
 obtain ⟨e, he, hk⟩ := List.mem_map.1 h3
 injection hk with h4 h5
 exact ⟨e, he, by rw [h4, h1, h2]⟩
def stC (dg mg lg : Nat) (past : Nat) (o : Option Nat) : List Value := [.pointer (some ⟨dg, 0, none⟩), .map (some mg), .map (some lg), .int .i64 (past : Int), .int .i64 (owedI o)]
def Zof (g mg lg : Nat) : Nat → Prop := fun k => k = g ∨ k = mg ∨ k = lg
structure St (w : World) (F : Nat → Prop) (g dg : Nat) (s : Bag) (o : Option Nat) : Prop where
  out : ∃ mg lg X es1 c1 es2 c2, Bk w g (stC dg mg lg s.past o) ∧ AM w mg s.l es1 c1 ∧ LM w F (Zof g mg lg) X lg (heldL s.l) es2 c2 ∧ Sets w F (Zof g mg lg) X ∧ g ≠ mg ∧ g ≠ lg ∧ mg ≠ lg
  own : F g
  lt : ∀ k, F k → k < w.heap.size
  ok : (∀ x ∈ s.l, BatOk x ∧ batE x = 0) ∧ s.past ≤ 1099511627776 ∧ ∀ n, o = some n → n ≤ 1099511627776
theorem St.chg {S F : Nat → Prop} {w w' : World} {g dg : Nat} {s : Bag} {o : Option Nat} (h : St w F g dg s o) (c : Chg S w w') (hd : ∀ k, F k → ¬ S k) : St w' F g dg s o := by
 obtain ⟨mg, lg, X, es1, c1, es2, c2, h1, h2, h3, h4, h5⟩ := h.out
 have hF : ∀ k, S k → ¬ F k := fun k hk hf => hd k hf hk
 refine ⟨⟨mg, lg, X, es1, c1, es2, c2, h1.chg c (hd _ h.own), h2.chg c (hd _ (h4.zf _ (.inr (.inl rfl)))), h3.keep h4 c (fun k hk => .inr (hF k hk)) (hd _ (h4.zf _ (.inr (.inr rfl)))), ⟨h4.zf, h4.zx, h4.fx, fun k hk => Nat.lt_of_lt_of_le (h.lt k hk) c.size⟩, h5⟩, h.own, fun k hk => Nat.lt_of_lt_of_le (h.lt k hk) c.size, h.ok⟩
theorem St.ext {F : Nat → Prop} {w w' : World} {g dg : Nat} {s : Bag} {o : Option Nat} (h : St w F g dg s o) (c : Ext w w') : St w' F g dg s o := h.chg c fun _ _ x => x
theorem St.cell {F : Nat → Prop} {w w' : World} {g dg : Nat} {s : Bag} {o o' : Option Nat} (h : St w F g dg s o) (c : Chg (fun k => k = g) w w') (hB : ∀ mg lg, Bk w g (stC dg mg lg s.past o) → Bk w' g (stC dg mg lg s.past o')) (ho : ∀ n, o' = some n → n ≤ 1099511627776) : St w' F g dg s o' := by
 obtain ⟨mg, lg, X, es1, c1, es2, c2, h1, h2, h3, h4, h5, h6, h7⟩ := h.out
 refine ⟨⟨mg, lg, X, es1, c1, es2, c2, hB _ _ h1, h2.chg c h5.symm, h3.keep h4 c (fun k hk => .inl (.inl hk)) h6.symm, ⟨h4.zf, h4.zx, h4.fx, fun k hk => Nat.lt_of_lt_of_le (h.lt k hk) c.size⟩, h5, h6, h7⟩, h.own, fun k hk => Nat.lt_of_lt_of_le (h.lt k hk) c.size, h.ok.1, h.ok.2.1, ho⟩
theorem Has_ok (F : Nat → Prop) (g dg : Nat) (s : Bag) (o : Option Nat) (r c : Int) (w : World) (hS : St w F g dg s o) (hr : InI r) (hc : InI c) :
   Ct Tryz.prog 50 #[.pointer (some ⟨g, 0, none⟩), .int .i64 r, .int .i64 c] w (fun v w' => v = .bool (hasL s.l r c) ∧ w = w') := by
 obtain ⟨mg, lg, X, es1, c1, es2, c2, h1, h2, h3, h4, h5⟩ := hS.out
 refine Ct.enter [(0, .pointer (some ⟨g, 0, none⟩)), (1, .int .i64 r), (2, .int .i64 c)] Tryz.func50 rfl rfl rfl rfl ?_
 obtain ⟨lk, hlk⟩ := keyP hr hc
 refine C.seq (C.region (W.assign rfl rfl (W.nil (At.thenCode (C.seq (C.region (W.move rfl rfl (W.nilCheck rfl rfl (W.fieldB (off := 1) (size := 1) (t := 65) (Fld.of (by kernel_rfl)) rfl rfl rfl ?_)))))))))
 refine W.loadB rfl Tryz.underlying65 rfl (by assumption) rfl rfl ?_
 refine W.move rfl rfl (W.move rfl rfl ?_)
 refine W.buildS (fs := _) [(0, 1), (1, 1)] [.int .i64 r, .int .i64 c] [(.int .i64 0), (.int .i64 0)] Tryz.underlying125 (by kernel_rfl) (by kernel_rfl) rfl rfl rfl ?_
 refine W.lookupM (z := .bool false) lawP Tryz.underlying65 (by kernel_rfl) rfl rfl h2.mp hlk rfl ?_
 intro rv hrv
 obtain rfl : rv = .bool (hasL s.l r c) := by
   rcases hrv with ⟨hn, rfl⟩ | ⟨e, he, hk, rfl⟩
   have : ¬ hasL s.l r c = true := fun hh => by obtain ⟨e, he, hk⟩ := (h2.has r c).2 hh; exact hn e he hk
   simp only [Bool.not_eq_true] at this
   rw [this]
   rw [(h2.mem he).1, (h2.has r c).1 ⟨e, he, hk⟩]
 refine W.assign rfl rfl (W.nil (At.thenCode (C.ret ?_)))
 refine At.ret1 Tryz.results50 rfl ?_
 exact ⟨rfl, rfl⟩
theorem Len_ok (F : Nat → Prop) (g dg : Nat) (s : Bag) (o : Option Nat) (w : World) (hS : St w F g dg s o) :
   Ct Tryz.prog 24 #[.pointer (some ⟨g, 0, none⟩)] w (fun v w' => v = .int .i64 (s.l.length : Int) ∧ w = w') := by
 obtain ⟨mg, lg, X, es1, c1, es2, c2, h1, h2, h3, h4, h5⟩ := hS.out
 refine Ct.enter [(0, .pointer (some ⟨g, 0, none⟩))] Tryz.func24 rfl rfl rfl rfl ?_
 refine C.seq (C.region (W.assign rfl rfl (W.nil (At.thenCode (C.seq (C.region (W.move rfl rfl (W.nilCheck rfl rfl (W.fieldB (off := 1) (size := 1) (t := 65) (Fld.of (by kernel_rfl)) rfl rfl rfl ?_)))))))))
 refine W.loadB rfl Tryz.underlying65 rfl (by assumption) rfl rfl ?_
 refine W.lenM rfl h2.mp Tryz.underlying65 rfl ?_
 rw [h2.len]
 refine W.assign rfl rfl (W.nil (At.thenCode (C.ret ?_)))
 refine At.ret1 Tryz.results24 rfl ?_
 exact ⟨rfl, rfl⟩
theorem dLen_ok (F : Nat → Prop) (g : Nat) (rv : Int) (D : Dsk) (w : World) (hD : Dk w F g rv D) : Ct Tryz.prog 71 #[.pointer (some ⟨g, 0, none⟩)] w (fun v w' => v = .int .i64 (D.bs.length : Int) ∧ w = w') := by
 obtain ⟨bo, cb, fo, cf, h1, h2, h3, h4, h5⟩ := hD.out
 refine Ct.enter [(0, .pointer (some ⟨g, 0, none⟩))] Tryz.func71 rfl rfl rfl rfl ?_
 refine C.seq (C.region (W.assign rfl rfl (W.nil (At.thenCode (C.seq (C.region (W.move rfl rfl (W.nilCheck rfl rfl (W.fieldB (off := 1) (size := 1) (t := 22) (Fld.of (by kernel_rfl)) rfl rfl rfl ?_)))))))))
 refine W.loadB rfl Tryz.underlying22 rfl (by assumption) rfl rfl ?_
 refine W.lenS rfl Tryz.underlying22 rfl (W.assign rfl rfl (W.nil (At.thenCode (C.ret ?_))))
 refine At.ret1 Tryz.results71 rfl ?_
 exact ⟨rfl, rfl⟩
structure BatM (A : Nat → Prop) (w : World) (x : BatD) (vi vl : Value) : Prop where
  inner : RNums A w [vi] x.inner
  lets : RSl 33 RLet A w [vl] x.lets
  ok : BatOk x
  li : x.inner.length ≤ 9223372036854775807
  ll : x.lets.length ≤ 9223372036854775807
  lb : ∀ p ∈ x.lets, p.2.length ≤ 9223372036854775807
theorem BatM.chg {A : Nat → Prop} {w w' : World} {x : BatD} {vi vl : Value} (h : BatM A w x vi vl) (g : Chg A w w') : BatM A w' x vi vl := ⟨rNums.chg h.inner g, (rSl 33 rLet).chg h.lets g, h.ok, h.li, h.ll, h.lb⟩
theorem BatM.new {A B : Nat → Prop} {w : World} {x : BatD} {vi vl : Value} (h : BatM A w x vi vl) (g : ∀ k, B k → k < w.heap.size → A k) : BatM B w x vi vl := ⟨rNums.new h.inner g, (rSl 33 rLet).new h.lets g, h.ok, h.li, h.ll, h.lb⟩
theorem BatM.ext {A : Nat → Prop} {w w' : World} {x : BatD} {vi vl : Value} (h : BatM A w x vi vl) (g : Ext w w') : BatM A w' x vi vl := h.chg (g.mono fun _ c => c.elim)
theorem BatM.none {A : Nat → Prop} {w : World} {x : BatD} {vi vl : Value} (h : BatM A w x vi vl) : BatM (fun _ => False) w x vi vl := h.new fun _ c => c.elim
theorem BatM.is {A : Nat → Prop} {w : World} {x : BatD} {vi vl : Value} (h : BatM A w x vi vl) : ∃ ai ci al cl, vi = .slice ai x.inner.length ci ∧ vl = .slice al x.lets.length cl := by
 obtain ⟨ai, ci, rfl, _⟩ := RNums.form h.inner
 obtain ⟨al, cl, rfl, _⟩ := RSl.form h.lets
 exact ⟨ai, ci, al, cl, rfl, rfl⟩
theorem batC_one {A : Nat → Prop} {w : World} {x : BatD} {vi vl : Value} (h : BatM A w x vi vl) : ∀ u ∈ batC x vi vl, u.oneCell' = true := by
 obtain ⟨ai, ci, al, cl, rfl, rfl⟩ := h.is
 intro u hu
 unfold batC at hu
 simp only [List.mem_cons, List.not_mem_nil, or_false] at hu
 rcases hu with rfl | rfl | rfl | rfl <;> rfl
theorem may_ok (F A : Nat → Prop) (g dg : Nat) (s : Bag) (o : Option Nat) (x : BatD) (vi vl : Value) (w : World) (hS : St w F g dg s o) (hb : BatM A w x vi vl) :
   Ct Tryz.prog 34 #[.pointer (some ⟨g, 0, none⟩), .agg (batC x vi vl).toArray] w (fun v w' => v = .int .i64 (mayE s x : Int) ∧ Ext w w') := by
 refine Ct.enter [(0, .pointer (some ⟨g, 0, none⟩)), (1, .agg (batC x vi vl).toArray)] Tryz.func34 rfl rfl rfl rfl ?_
 have hir : InI x.round := hb.ok.1
 have hic : InI x.chain := hb.ok.2.1
 have hpast := hS.ok.2.1
 refine C.seq (C.region ?_)
 refine W.box (batC x vi vl) rfl rfl rfl ?_
 intro g3 w3 hg3 hX3 hB3
 refine W.assign rfl rfl (W.nil (At.thenCode (C.seq (C.region ?_))))
 refine W.loadA rfl (hB3.cells (o := 0)) Tryz.underlying39 rfl (by kernel_rfl) rfl ?_
 rw [List.drop_zero]
 have hb' := (hb.ext hX3).none
 refine W.call Tryz.call36 rfl (Cod.Batch_ok x vi vl _ hb'.inner hb'.lets hb'.ok hb'.li hb'.ll hb'.lb) rfl ?_
 rintro v9 w9 ⟨a9, c9, rfl, hN9, hX9⟩
 have hB9 := hB3.ext hX9
 have hS9 := (hS.ext hX3).ext hX9
 have hXa := hX3.ext hX9
 obtain ⟨mg, lg, X, es1, c1, es2, c2, h1, h2, h3, h4, h5⟩ := hS9.out
 refine W.move rfl rfl (W.extract rfl rfl rfl (W.extract rfl rfl rfl (W.assign rfl rfl (W.assign rfl rfl (W.nil (At.thenCode (C.seq (C.block (C.seq (C.region (W.fieldB (off := 0) (size := 1) (t := 3) (Fld.of (by kernel_rfl)) rfl rfl rfl ?_)))))))))))
 refine W.loadB (v := .int .i64 x.round) rfl Tryz.underlying3 rfl hB9 rfl rfl ?_
 refine W.gtrI rfl rfl rfl (W.move rfl rfl ?_)
 refine W.splitD (fun g16 => ?_) (fun g16 => ?_)
 refine W.skips rfl rfl rfl rfl rfl rfl (W.skips rfl rfl rfl rfl rfl rfl (W.pickT rfl rfl rfl (W.assign rfl rfl (W.nil (At.thenCode ?_)))))
 refine C.condT rfl ?_
 refine C.seq (C.region (W.assign rfl rfl (W.nil (At.thenCode (C.ret (At.blockRet (At.thenRet ?_)))))))
 refine At.ret1 Tryz.results34 rfl ?_
 refine ⟨?_, hXa⟩
 have : mayE s x = 1 := by unfold mayE; rw [if_pos (.inl (by omega))]
 rw [this]; rfl
 refine W.wants rfl rfl rfl rfl (W.move rfl rfl (W.wants rfl rfl rfl rfl (W.eqlI rfl rfl rfl (W.pickF rfl rfl rfl (W.assign rfl rfl (W.nil (At.thenCode ?_)))))))
 refine C.condD rfl (fun c12 => ?_) (fun c12 => ?_)
 refine C.seq (C.region (W.assign rfl rfl (W.nil (At.thenCode (C.ret (At.blockRet (At.thenRet ?_)))))))
 refine At.ret1 Tryz.results34 rfl ?_
 refine ⟨?_, hXa⟩
 have : mayE s x = 1 := by unfold mayE; rw [if_pos (.inr (by omega))]
 rw [this]; rfl
 refine C.seq (C.region (W.move rfl rfl (W.neqI rfl rfl rfl (W.assign rfl rfl (W.nil (At.thenCode ?_))))))
 refine C.condD rfl (fun c20 => ?_) (fun c20 => ?_)
 refine C.seq (C.region (W.move rfl rfl (W.assign rfl rfl (W.nil (At.thenCode (C.ret (At.blockRet (At.thenRet ?_))))))))
 refine At.ret1 Tryz.results34 rfl ?_
 have h16 : ¬ (1099511627776 < x.round ∨ batE x = 1) := by omega
 refine ⟨?_, hXa⟩
 have : mayE s x = batE x := by unfold mayE; rw [if_neg h16, if_pos (by omega)]
 rw [this]; rfl
 refine C.seq ?_
 refine C.regionAny 8 (E_ (.pointer (some ⟨g3, 0, none⟩)) :: E_ (.int .i64 x.round) :: E_ (.pointer (some ⟨g, 0, none⟩)) :: E_ (.pointer (some ⟨g, 0, none⟩)) :: E_ (.pointer (some ⟨g, 3, none⟩)) :: E_ (.int .i64 (s.past : Int)) :: E_ (.bool (decide (x.round < (s.past : Int)))) :: E_ (.bool (decide (x.round < (s.past : Int)))) :: []) [(0, .pointer (some ⟨g, 0, none⟩)), (3, .pointer (some ⟨g3, 0, none⟩))] [] (sc rfl (sc rfl (Sub.nil))) (Sub.nil) (sc rfl (sc rfl (Sub.nil))) (by kernel_rfl) rfl rfl rfl (sN (sN (sN (sN (sN (sN (sN (sN (trivial))))))))) ?_ ?_
 refine And.intro ?_ ?_
 intro L_ wr hX_ hs_ hf_ hd_
 exact W.s1 (hs_ 3 _ rfl) (W.fieldB (off := 0) (size := 1) (t := 3) (Fld.of (by kernel_rfl)) rfl rfl rfl (W.e0 rfl))
 refine And.intro ?_ ?_
 intro L_ wr hX_ hs_ hf_ hd_
 obtain ⟨_, e0, rfl⟩ := hd_ 0 rfl
 refine W.s1 (e0 _ rfl) ?_
 refine W.loadB (v := .int .i64 x.round) rfl Tryz.underlying3 rfl (hB9.ext hX_) rfl rfl ?_
 exact W.e0 rfl
 refine And.intro (mB rfl rfl (fun _ => rfl) rfl) ?_
 refine And.intro ?_ ?_
 intro L_ wr hX_ hs_ hf_ hd_
 obtain ⟨_, e2, rfl⟩ := hd_ 2 rfl
 exact W.s1 (e2 _ rfl) (W.nilCheck rfl rfl (W.e0 rfl))
 refine And.intro ?_ ?_
 intro L_ wr hX_ hs_ hf_ hd_
 obtain ⟨_, e3, rfl⟩ := hd_ 3 rfl
 exact W.s1 (e3 _ rfl) (W.fieldB (off := 3) (size := 1) (t := 3) (Fld.of (by kernel_rfl)) rfl rfl rfl (W.e0 rfl))
 refine And.intro ?_ ?_
 intro L_ wr hX_ hs_ hf_ hd_
 obtain ⟨_, e4, rfl⟩ := hd_ 4 rfl
 refine W.s1 (e4 _ rfl) ?_
 refine W.loadB (v := .int .i64 (s.past : Int)) rfl Tryz.underlying3 rfl (h1.ext hX_) rfl rfl ?_
 exact W.e0 rfl
 refine And.intro ?_ ?_
 intro L_ wr hX_ hs_ hf_ hd_
 obtain ⟨_, e1, rfl⟩ := hd_ 1 rfl
 obtain ⟨_, e5, rfl⟩ := hd_ 5 rfl
 exact W.s2 (e1 _ rfl) (e5 _ rfl) (W.lssI rfl rfl rfl (W.e0 rfl))
 refine And.intro ?_ ?_
 intro L_ wr hX_ hs_ hf_ hd_
 obtain ⟨_, e6, rfl⟩ := hd_ 6 rfl
 exact W.s1 (e6 _ rfl) (W.assign rfl rfl (W.e0 rfl))
 exact trivial
 intro L_ wr hX6 hs_ hv_
 obtain ⟨_, e7, rfl⟩ := hv_ 7 (by decide)
 refine W.weaken (l' := [(24, _), (0, _), (3, _)]) (sc (e7 _ rfl) (sc (hs_ _ _ rfl) (sc (hs_ _ _ rfl) (Sub.nil)))) ?_
 refine W.nil (At.thenCode ?_)
 refine C.condD rfl (fun c24 => ?_) (fun c24 => ?_)
 refine C.seq (C.region (W.assign rfl rfl (W.nil (At.thenCode (C.ret (At.blockRet (At.thenRet ?_)))))))
 refine At.ret1 Tryz.results34 rfl ?_
 have h16 : ¬ (1099511627776 < x.round ∨ batE x = 1) := by omega
 refine ⟨?_, hXa.ext hX6⟩
 have : mayE s x = 13 := by unfold mayE; rw [if_neg h16, if_neg (by omega), if_pos (by omega)]
 rw [this]; rfl
 refine C.seq (C.region (W.move rfl rfl (W.fieldB (off := 0) (size := 1) (t := 3) (Fld.of (by kernel_rfl)) rfl rfl rfl ?_)))
 refine W.loadB (v := .int .i64 x.round) rfl Tryz.underlying3 rfl (hB9.ext hX6) rfl rfl ?_
 refine W.fieldB (off := 1) (size := 1) (t := 3) (Fld.of (by kernel_rfl)) rfl rfl rfl ?_
 refine W.loadB (v := .int .i64 x.chain) rfl Tryz.underlying3 rfl (hB9.ext hX6) rfl rfl ?_
 refine W.call Tryz.call50 rfl (Mbx.Has_ok F g dg s o x.round x.chain _ (hS9.ext hX6) hir hic) rfl ?_
 rintro v38 w38 ⟨rfl, rfl⟩
 refine W.assign rfl rfl (W.nil (At.thenCode ?_))
 first | refine C.condD rfl (fun c32 => ?_) (fun c32 => ?_) | refine C.cond rfl (fun c32 => ?_) (fun c32 => ?_)
 refine C.seq (C.region (W.assign rfl rfl (W.nil (At.thenCode (C.ret (At.blockRet (At.thenRet ?_)))))))
 refine At.ret1 Tryz.results34 rfl ?_
 have h16 : ¬ (1099511627776 < x.round ∨ batE x = 1) := by omega
 refine ⟨?_, hXa.ext hX6⟩
 have : mayE s x = 11 := by unfold mayE; rw [if_neg h16, if_neg (by omega), if_neg (by omega), if_pos (by simpa using c32)]
 rw [this]; rfl
 refine C.skip (At.blockNormal (At.thenCode (C.seq (C.region (W.assign rfl rfl (W.nil (At.thenCode (C.ret ?_))))))))
 refine At.ret1 Tryz.results34 rfl ?_
 have h16 : ¬ (1099511627776 < x.round ∨ batE x = 1) := by omega
 refine ⟨?_, hXa.ext hX6⟩
 have : mayE s x = 0 := by unfold mayE; rw [if_neg h16, if_neg (by omega), if_neg (by omega), if_neg (by simpa using c32)]
 rw [this]; rfl
end Go.Proofs.YthiijdbiikljpaaGreat.Mbx
namespace Go.Proofs.YthiijdbiikljpaaGreat.Mbx
open Go Go.RowKit Go.Proofs.YthiijdbiikljpaaGreat.KW Go.Proofs.YthiijdbiikljpaaGreat.Words Go.Proofs.YthiijdbiikljpaaGreat.Sha Go.Proofs.YthiijdbiikljpaaGreat.RSha Go.Proofs.YthiijdbiikljpaaGreat.Grp Go.Proofs.YthiijdbiikljpaaGreat.Cod Go.Proofs.YthiijdbiikljpaaGreat.Disk
set_option linter.unusedVariables false
set_option linter.unusedSimpArgs false
set_option maxRecDepth 100000
theorem cut_len (D : Dsk) (n : Int) : (cutD D n).bs.length ≤ D.bs.length := by
 unfold cutD
 show List.length _ ≤ _
 split
 exact Nat.le_refl _
 rw [List.length_take]; omega
theorem app_len (D : Dsk) (b : List UInt8) : (appD D b).bs.length ≤ D.bs.length + b.length := by
 unfold appD
 show List.length _ ≤ _
 split
 exact Nat.le_add_right _ _
 rw [List.length_append]; exact Nat.le_refl _
theorem settle_len (B : Box) : (settleB B).D.bs.length ≤ B.D.bs.length := by
 unfold settleB
 split
 exact Nat.le_refl _
 exact cut_len _ _
theorem Bk.same {w : World} {g : Nat} {cs cs' : List Value} (h : Bk w g cs) (h' : Bk w g cs') : cs = cs' := by
 obtain ⟨e, h⟩ := h
 obtain ⟨e', h'⟩ := h'
 rw [h] at h'
 injection h' with h'
 injection h' with h1 h2
 simpa using congrArg Array.toList h1
structure Kept (F Fd : Nat → Prop) (g dg : Nat) (rv : Int) (B : Box) (w w' : World) : Prop where
  out : ∃ Fd' : Nat → Prop, Dk w' Fd' dg rv B.D ∧ (∀ k, Fd' k → Fd k ∨ w.heap.size ≤ k)
  st : St w' F g dg B.s B.owed
  chg : Chg (fun k => k = g ∨ Fd k) w w'
theorem settle_ok (F Fd : Nat → Prop) (g dg : Nat) (rv : Int) (B : Box) (w : World) (hS : St w F g dg B.s B.owed) (hD : Dk w Fd dg rv B.D) (hd : ∀ k, F k → ¬ Fd k) :
   Ct Tryz.prog 70 #[.pointer (some ⟨g, 0, none⟩)] w (fun v w' => v = .int .i64 (settleE B : Int) ∧ Kept F Fd g dg rv (settleB B) w w') := by
 obtain ⟨mg, lg, X, es1, c1, es2, c2, h1, h2, h3, h4, h5⟩ := hS.out
 have hok := hS.ok.2.2
 refine Ct.enter [(0, .pointer (some ⟨g, 0, none⟩))] Tryz.func70 rfl rfl rfl rfl ?_
 refine C.seq (C.region (W.assign rfl rfl (W.nil (At.thenCode (C.seq (C.seq (C.region (W.move rfl rfl (W.nilCheck rfl rfl (W.fieldB (off := 4) (size := 1) (t := 3) (Fld.of (by kernel_rfl)) rfl rfl rfl ?_))))))))))
 refine W.loadB rfl Tryz.underlying3 rfl (by assumption) rfl rfl ?_
 refine W.eqlI rfl rfl rfl (W.nil (At.thenCode ?_))
 refine C.condD rfl (fun c8 => ?_) (fun c8 => ?_)
 have ho : B.owed = none := by
   cases ho : B.owed with
   | none => rfl
   | some n => rw [ho] at c8; unfold owedI at c8; simp only at c8; omega
 refine C.seq (C.region (W.assign rfl rfl (W.nil (At.thenCode (C.ret (At.thenRet ?_))))))
 refine At.ret1 Tryz.results70 rfl ?_
 refine ⟨by unfold settleE; rw [ho]; rfl, ?_⟩
 have hset : settleB B = B := by unfold settleB; rw [ho]
 rw [hset]
 exact ⟨⟨Fd, hD, fun k hk => Or.inl hk⟩, hS, Chg.refl _ _⟩
 obtain ⟨n, ho⟩ : ∃ n, B.owed = some n := by
   cases ho : B.owed with
   | none => rw [ho] at c8; exact absurd rfl c8
   | some n => exact ⟨n, rfl⟩
 have hn := hok n ho
 have hset : settleB B = ⟨cutD B.D (n : Nat), B.s, if cutE B.D (n : Nat) = 0 then none else some n⟩ := by unfold settleB; rw [ho]
 have hsetE : settleE B = cutE B.D (n : Nat) := by unfold settleE; rw [ho]
 have h1' : Bk w g [.pointer (some ⟨dg, 0, none⟩), .map (some mg), .map (some lg), .int .i64 (B.s.past : Int), .int .i64 (n : Int)] := by have := h1; rw [ho] at this; exact this
 refine C.skip (At.thenCode (C.seq ?_))
 refine C.regionAny 8 (E_ (.pointer (some ⟨g, 0, none⟩)) :: E_ (.pointer (some ⟨g, 0, none⟩)) :: E_ (.pointer (some ⟨g, 0, none⟩)) :: E_ (.pointer (some ⟨dg, 0, none⟩)) :: E_ (.pointer (some ⟨g, 0, none⟩)) :: E_ (.pointer (some ⟨g, 0, none⟩)) :: E_ (.pointer (some ⟨g, 4, none⟩)) :: E_ (.int .i64 (n : Int)) :: []) [(0, .pointer (some ⟨g, 0, none⟩))] [] (sc rfl (Sub.nil)) (Sub.nil) (sc rfl (Sub.nil)) (by kernel_rfl) rfl rfl rfl (sN (sN (sN (sN (sN (sN (sN (sN (trivial))))))))) ?_ ?_
 refine And.intro (mB rfl rfl (fun _ => rfl) rfl) ?_
 refine And.intro ?_ ?_
 intro L_ wr hX_ hs_ hf_ hd_
 obtain ⟨_, e0, rfl⟩ := hd_ 0 rfl
 exact W.s1 (e0 _ rfl) (W.nilCheck rfl rfl (W.e0 rfl))
 refine And.intro ?_ ?_
 intro L_ wr hX_ hs_ hf_ hd_
 obtain ⟨_, e1, rfl⟩ := hd_ 1 rfl
 exact W.s1 (e1 _ rfl) (W.fieldB (off := 0) (size := 1) (t := 25) (Fld.of (by kernel_rfl)) rfl rfl rfl (W.e0 rfl))
 refine And.intro ?_ ?_
 intro L_ wr hX_ hs_ hf_ hd_
 obtain ⟨_, e2, rfl⟩ := hd_ 2 rfl
 refine W.s1 (e2 _ rfl) ?_
 refine W.loadB (v := .pointer (some ⟨dg, 0, none⟩)) rfl Tryz.underlying25 rfl (h1'.ext hX_) rfl rfl ?_
 exact W.e0 rfl
 refine And.intro (mB rfl rfl (fun _ => rfl) rfl) ?_
 refine And.intro ?_ ?_
 intro L_ wr hX_ hs_ hf_ hd_
 obtain ⟨_, e4, rfl⟩ := hd_ 4 rfl
 exact W.s1 (e4 _ rfl) (W.nilCheck rfl rfl (W.e0 rfl))
 refine And.intro ?_ ?_
 intro L_ wr hX_ hs_ hf_ hd_
 obtain ⟨_, e5, rfl⟩ := hd_ 5 rfl
 exact W.s1 (e5 _ rfl) (W.fieldB (off := 4) (size := 1) (t := 3) (Fld.of (by kernel_rfl)) rfl rfl rfl (W.e0 rfl))
 refine And.intro ?_ ?_
 intro L_ wr hX_ hs_ hf_ hd_
 obtain ⟨_, e6, rfl⟩ := hd_ 6 rfl
 refine W.s1 (e6 _ rfl) ?_
 refine W.loadB (v := .int .i64 (n : Int)) rfl Tryz.underlying3 rfl (h1'.ext hX_) rfl rfl ?_
 exact W.e0 rfl
 exact trivial
 intro L_ wr hX3 hs_ hv_
 obtain ⟨_, e3, rfl⟩ := hv_ 3 (by decide)
 obtain ⟨_, e7, rfl⟩ := hv_ 7 (by decide)
 refine W.weaken (l' := [(12, _), (16, _), (0, _)]) (sc (e3 _ rfl) (sc (e7 _ rfl) (sc (hs_ _ _ rfl) (Sub.nil)))) ?_
 have hDr := hD.ext hX3
 refine W.call Tryz.call30 rfl (Disk.Cut_ok Fd dg rv B.D n _ hDr) rfl ?_
 rintro v17 w17 ⟨rfl, hD17, hC17⟩
 have hX3' := hX3
 have hs3 := hX3'.size
 have hC' : Chg (fun k => k = g ∨ Fd k) w w17 := (hX3'.mono fun _ c => c.elim).trans (hC17.mono fun k hk => Or.inr hk)
 have hS17 := (hS.ext hX3').chg hC17 fun k hk hk' => hd k hk hk'
 have h1b : Bk w17 g [.pointer (some ⟨dg, 0, none⟩), .map (some mg), .map (some lg), .int .i64 (B.s.past : Int), .int .i64 (n : Int)] := (h1'.ext hX3').chg hC17 (hd g hS.own)
 have hlt17 := hD17.lt
 refine W.assign rfl rfl (W.nil (At.thenCode (C.seq (C.seq (C.region (W.move rfl rfl (W.eqlI rfl rfl rfl (W.nil (At.thenCode ?_)))))))))
 refine C.condD rfl (fun c19 => ?_) (fun c19 => ?_)
 refine C.region (W.move rfl rfl (W.nilCheck rfl rfl (W.fieldB (off := 4) (size := 1) (t := 3) (Fld.of (by kernel_rfl)) rfl rfl rfl ?_)))
 refine W.store1 rfl rfl rfl h1b (by simp) (by kernel_rfl) ?_
 intro wz hcz hBz
 refine W.nil (At.thenCode (C.seq (C.region (W.move rfl rfl (W.assign rfl rfl (W.nil (At.thenCode (C.ret ?_))))))))
 refine At.ret1 Tryz.results70 rfl ?_
 have hce : cutE B.D (n : Nat) = 0 := by omega
 rw [hset, hsetE, if_pos hce]
 refine ⟨rfl, ⟨Grown Fd wr w17, hD17.chg hcz (fun k hk hkg => ?_), fun k hk => hk.imp id fun h => Nat.le_trans hs3 h.1⟩, ?_, ?_⟩
 subst hkg
 rcases hk with hk | hk
 exact hd k hS.own hk
 have := hS.lt k hS.own; omega
 refine hS17.cell hcz (fun mg' lg' hB' => ?_) (fun m hm => by cases hm)
 have e := Bk.same hB' h1b
 unfold stC at e
 simp only [List.cons.injEq, Value.map.injEq, Option.some.injEq, and_true, true_and] at e
 obtain ⟨rfl, rfl, _⟩ := e
 exact hBz
 exact hC'.trans (hcz.mono fun k hk => Or.inl hk)
 refine C.skip (At.thenCode (C.seq (C.region (W.move rfl rfl (W.assign rfl rfl (W.nil (At.thenCode (C.ret ?_))))))))
 refine At.ret1 Tryz.results70 rfl ?_
 have hce : ¬ cutE B.D (n : Nat) = 0 := by omega
 rw [hset, hsetE, if_neg hce]
 refine ⟨rfl, ⟨Grown Fd wr w17, hD17, fun k hk => hk.imp id fun h => Nat.le_trans hs3 h.1⟩, ?_, hC'⟩
 rw [ho] at hS17
 exact hS17
theorem Kept.sets {F Fd : Nat → Prop} {g dg : Nat} {rv : Int} {B : Box} {w w' : World} (h : Kept F Fd g dg rv B w w') (hlt : ∀ k, F k → k < w.heap.size) (hd : ∀ k, F k → ¬ Fd k) : ∃ Fd' : Nat → Prop, Dk w' Fd' dg rv B.D ∧ (∀ k, Fd' k → Fd k ∨ w.heap.size ≤ k) ∧ (∀ k, F k → ¬ Fd' k) := by
 obtain ⟨Fd', h1, h2⟩ := h.out
 refine ⟨Fd', h1, h2, fun k hk hk' => ?_⟩
 rcases h2 k hk' with h3 | h3
 exact hd k hk h3
 have := hlt k hk; omega
theorem Kept.then {F Fd Fd1 : Nat → Prop} {g dg : Nat} {rv : Int} {B' : Box} {w w1 w' : World} (hs : w.heap.size ≤ w1.heap.size) (hc : Chg (fun k => k = g ∨ Fd k) w w1) (h1 : ∀ k, Fd1 k → Fd k ∨ w.heap.size ≤ k) (h : Kept F Fd1 g dg rv B' w1 w') : Kept F Fd g dg rv B' w w' := by
 obtain ⟨Fd', h2, h3⟩ := h.out
 refine ⟨⟨Fd', h2, fun k hk => ?_⟩, h.st, hc.news h.chg fun k hk => ?_⟩
 rcases h3 k hk with h4 | h4
 exact h1 k h4
 exact Or.inr (by omega)
 rcases hk with hk | hk
 exact Or.inl (Or.inl hk)
 rcases h1 k hk with h4 | h4
 exact Or.inl (Or.inr h4)
 exact Or.inr h4
theorem putE_eq {D : Dsk} {x : List UInt8} (h : appE D (recB x) = 0) : putE D x = synE (appD D (recB x)) ∧ putD D x = synD (appD D (recB x)) := ⟨if_pos h, if_pos h⟩
theorem putE_ne {D : Dsk} {x : List UInt8} (h : ¬ appE D (recB x) = 0) : putE D x = appE D (recB x) ∧ putD D x = appD D (recB x) := ⟨if_neg h, if_neg h⟩
theorem keep_ok (F Fd : Nat → Prop) (g dg : Nat) (rv : Int) (B : Box) (ax : Option Addr) (cx : Nat) (x : List UInt8) (w : World) (hS : St w F g dg B.s B.owed) (hD : Dk w Fd dg rv B.D) (hd : ∀ k, F k → ¬ Fd k) (hrv : 0 ≤ rv) (hx : Bs w ax cx x) (hxn : ∀ ad, ax = some ad → x ≠ [] → ¬ (ad.block = g ∨ Fd ad.block)) (hxl : x.length ≤ 1000000) (hDl : B.D.bs.length ≤ 1000000000) :
   Ct Tryz.prog 37 #[.pointer (some ⟨g, 0, none⟩), .slice ax x.length cx] w (fun v w' => v = .int .i64 (keepE B x : Int) ∧ Kept F Fd g dg rv (keepB B x) w w') := by
 obtain ⟨mg, lg, X, es1, c1, es2, c2, h1, h2, h3, h4, h5⟩ := hS.out
 have h1' : Bk w g [.pointer (some ⟨dg, 0, none⟩), .map (some mg), .map (some lg), .int .i64 (B.s.past : Int), .int .i64 (owedI B.owed)] := h1
 refine Ct.enter [(0, .pointer (some ⟨g, 0, none⟩)), (1, .slice ax x.length cx)] Tryz.func37 rfl rfl rfl rfl ?_
 refine C.seq (C.region (W.assign rfl rfl (W.nil (At.thenCode (C.seq (C.seq (C.region (W.move rfl rfl (W.nilCheck rfl rfl (W.fieldB (off := 0) (size := 1) (t := 25) (Fld.of (by kernel_rfl)) rfl rfl rfl ?_))))))))))
 refine W.loadB rfl Tryz.underlying25 rfl (by assumption) rfl rfl ?_
 refine W.eqlPtr rfl rfl rfl rfl ?_
 refine W.nil (At.thenCode ?_)
 refine C.condF rfl ?_
 refine C.skip (At.thenCode (C.seq (C.seq (C.region (W.move rfl rfl ?_)))))
 refine W.call Tryz.call70 rfl (Mbx.settle_ok F Fd g dg rv B _ hS hD hd) rfl ?_
 rintro v14 w14 ⟨rfl, hK14⟩
 refine W.assign rfl rfl (W.nil (At.thenCode (C.seq (C.region (W.move rfl rfl (W.neqI rfl rfl rfl (W.nil (At.thenCode ?_))))))))
 refine C.condD rfl (fun c16 => ?_) (fun c16 => ?_)
 have hse : ¬ settleE B = 0 := by omega
 refine C.seq (C.region (W.move rfl rfl (W.assign rfl rfl (W.nil (At.thenCode (C.ret (At.thenRet ?_)))))))
 refine At.ret1 Tryz.results37 rfl ?_
 have hke : keepE B x = settleE B := by unfold keepE; rw [if_neg hse]
 have hkb : keepB B x = settleB B := by unfold keepB; rw [if_neg hse]
 rw [hke, hkb]
 exact ⟨rfl, hK14⟩
 have hse : settleE B = 0 := by omega
 have hke : keepE B x = putE (settleB B).D x := by unfold keepE; rw [if_pos hse]
 have hkb : keepB B x = putB (settleB B) x := by unfold keepB; rw [if_pos hse]
 have how := settleB_owed hse
 have hss := settleB_s B
 have hs14 := hK14.chg.size
 obtain ⟨Fd1, hD14, hF14, hd14⟩ := hK14.sets hS.lt hd
 have hS14 := hK14.st
 have hx14 : Bs w14 ax cx x := Sl.chg hx hK14.chg fun ad e hne => hxn ad e (fun h => hne (by rw [h]; rfl))
 have hDl1 := settle_len B
 obtain ⟨B1, hB1⟩ : ∃ B1, B1 = settleB B := ⟨_, rfl⟩
 rw [← hB1] at hke hkb how hss hD14 hS14 hDl1
 obtain ⟨mg1, lg1, X1, es11, c11, es21, c21, h11, h21, h31, h41, h51⟩ := hS14.out
 have h11' : Bk w14 g [.pointer (some ⟨dg, 0, none⟩), .map (some mg1), .map (some lg1), .int .i64 (B1.s.past : Int), .int .i64 (owedI B1.owed)] := h11
 refine C.skip (At.thenCode (C.seq (C.region (W.move rfl rfl (W.nilCheck rfl rfl (W.fieldB (off := 0) (size := 1) (t := 25) (Fld.of (by kernel_rfl)) rfl rfl rfl ?_))))))
 refine W.loadB rfl Tryz.underlying25 rfl (by assumption) rfl rfl ?_
 refine W.call Tryz.call71 rfl (Mbx.dLen_ok Fd1 dg rv B1.D _ hD14) rfl ?_
 rintro v22 w22 ⟨rfl, rfl⟩
 refine W.assign rfl rfl (W.nil (At.thenCode (C.seq ?_)))
 refine C.regionAny 6 (E_ (.pointer (some ⟨g, 0, none⟩)) :: E_ (.pointer (some ⟨g, 0, none⟩)) :: E_ (.pointer (some ⟨g, 0, none⟩)) :: E_ (.pointer (some ⟨dg, 0, none⟩)) :: E_ (.slice ax x.length cx) :: (fun v w => ∃ ao c', v = .slice ao (recB x).length c' ∧ Bs w ao c' (recB x) ∧ ∀ ad, ao = some ad → w14.heap.size ≤ ad.block) :: []) [(0, .pointer (some ⟨g, 0, none⟩)), (1, .slice ax x.length cx), (6, .int .i64 (B1.D.bs.length : Int))] [] (sc rfl (sc rfl (sc rfl (Sub.nil)))) (Sub.nil) (sc rfl (sc rfl (sc rfl (Sub.nil)))) (by kernel_rfl) rfl rfl rfl (sN (sN (sN (sN (sN (sM (fun _ _ _ ⟨a, c, e, h, q⟩ g => ⟨a, c, e, Sl.ext h g, q⟩) (trivial))))))) ?_ ?_
 refine And.intro (mB rfl rfl (fun _ => rfl) rfl) ?_
 refine And.intro ?_ ?_
 intro L_ wr hX_ hs_ hf_ hd_
 obtain ⟨_, e0, rfl⟩ := hd_ 0 rfl
 exact W.s1 (e0 _ rfl) (W.nilCheck rfl rfl (W.e0 rfl))
 refine And.intro ?_ ?_
 intro L_ wr hX_ hs_ hf_ hd_
 obtain ⟨_, e1, rfl⟩ := hd_ 1 rfl
 exact W.s1 (e1 _ rfl) (W.fieldB (off := 0) (size := 1) (t := 25) (Fld.of (by kernel_rfl)) rfl rfl rfl (W.e0 rfl))
 refine And.intro ?_ ?_
 intro L_ wr hX_ hs_ hf_ hd_
 obtain ⟨_, e2, rfl⟩ := hd_ 2 rfl
 refine W.s1 (e2 _ rfl) ?_
 refine W.loadB (v := .pointer (some ⟨dg, 0, none⟩)) rfl Tryz.underlying25 rfl (h11'.ext hX_) rfl rfl ?_
 exact W.e0 rfl
 refine And.intro (mB rfl rfl (fun _ => rfl) rfl) ?_
 refine And.intro ?_ ?_
 intro L_ wr hX_ hs_ hf_ hd_
 obtain ⟨_, e4, rfl⟩ := hd_ 4 rfl
 refine W.s1 (e4 _ rfl) ?_
 refine W.call Tryz.call72 rfl (Mbx.record_ok ax cx x _ (hx14.ext hX_) hxl) rfl ?_
 rintro v28 w28 ⟨ho28, hX28⟩
 obtain ⟨a28, c28, rfl, hS28, hq28⟩ := ownsRow_form ho28
 exact W.e1 hX28 ⟨a28, c28, rfl, hS28, fun ad e => Nat.le_trans hX_.size (hq28 ad e)⟩
 exact trivial
 intro L_ wr hX7 hs_ hv_
 obtain ⟨_, e3, rfl⟩ := hv_ 3 (by decide)
 obtain ⟨v5, e5, r5⟩ := hv_ 5 (by decide)
 obtain ⟨a5, c5, rfl, hb5, hq5⟩ := r5
 refine W.weaken (l' := [(26, _), (28, _), (0, _), (1, _), (6, _)]) (sc (e3 _ rfl) (sc (e5 _ rfl) (sc (hs_ _ _ rfl) (sc (hs_ _ _ rfl) (sc (hs_ _ _ rfl) (Sub.nil)))))) ?_
 have hXr := hX7
 have hsr := hXr.size
 refine W.call Tryz.call7 rfl (Disk.Append_ok Fd1 dg rv B1.D a5 c5 (recB x) _ (hD14.ext hXr) hrv hb5 (fun ad e _ hk => by have := hq5 ad e; have := hD14.lt _ hk; omega) (by rw [recB_length]; omega)) rfl ?_
 rintro v29 w29 ⟨rfl, hD29, hC29⟩
 have hs29 := hC29.size
 have hS29 := (hS14.ext hXr).chg hC29 hd14
 have hW29 : Chg (fun k => k = g ∨ Fd1 k) w14 w29 := (hXr.mono fun _ c => c.elim).trans (hC29.mono fun k hk => Or.inr hk)
 have hF29 : ∀ k, Grown Fd1 wr w29 k → Fd1 k ∨ w14.heap.size ≤ k := fun k hk => hk.imp id fun h => Nat.le_trans hsr h.1
 have hd29 : ∀ k, F k → ¬ Grown Fd1 wr w29 k := fun k hk hg => by
   rcases hF29 k hg with h | h
   exact hd14 k hk h
   have := hS14.lt k hk; omega
 obtain ⟨mg2, lg2, X2, es12, c12, es22, c22, h12, h22, h32, h42, h52⟩ := hS29.out
 have h12' : Bk w29 g [.pointer (some ⟨dg, 0, none⟩), .map (some mg2), .map (some lg2), .int .i64 (B1.s.past : Int), .int .i64 (owedI B1.owed)] := h12
 refine W.assign rfl rfl (W.nil (At.thenCode (C.seq (C.seq (C.region (W.move rfl rfl (W.eqlI rfl rfl rfl (W.nil (At.thenCode ?_)))))))))
 refine C.condD rfl (fun c31 => ?_) (fun c31 => ?_)
 have hae : appE B1.D (recB x) = 0 := by omega
 obtain ⟨hpe, hpd⟩ := putE_eq hae
 refine C.region (W.move rfl rfl (W.nilCheck rfl rfl (W.fieldB (off := 0) (size := 1) (t := 25) (Fld.of (by kernel_rfl)) rfl rfl rfl ?_)))
 refine W.loadB rfl Tryz.underlying25 rfl (by assumption) rfl rfl ?_
 refine W.call Tryz.call73 rfl (Disk.Sync_ok (Grown Fd1 wr w29) dg rv (appD B1.D (recB x)) _ hD29) rfl ?_
 rintro v36 w36 ⟨rfl, hD36, hC36⟩
 have hs36 := hC36.size
 have hDp := hD36
 rw [← hpd] at hDp
 rw [← hpe]
 have hSp := hS29.chg hC36 hd29
 have hWp : Chg (fun k => k = g ∨ Fd1 k) w14 w36 := hW29.news hC36 fun k hk => (hF29 k hk).imp (fun h => Or.inr h) id
 have hFp := hF29
 have hdp := hd29
 have h1p : Bk w36 g [.pointer (some ⟨dg, 0, none⟩), .map (some mg2), .map (some lg2), .int .i64 (B1.s.past : Int), .int .i64 (owedI B1.owed)] := h12'.chg hC36 (hd29 g hS14.own)
 refine W.assign rfl rfl (W.nil (At.thenCode (C.seq (C.seq (C.region (W.move rfl rfl (W.neqI rfl rfl rfl (W.nil (At.thenCode ?_)))))))))
 refine C.condD rfl (fun c38 => ?_) (fun c38 => ?_)
 have hne : ¬ putE B1.D x = 0 := by omega
 have hpb : putB B1 x = settleB ⟨putD B1.D x, B1.s, some B1.D.bs.length⟩ := by unfold putB; rw [if_neg hne]
 refine C.seq (C.region (W.move rfl rfl (W.move rfl rfl (W.nilCheck rfl rfl (W.fieldB (off := 4) (size := 1) (t := 3) (Fld.of (by kernel_rfl)) rfl rfl rfl ?_)))))
 refine W.store1 rfl rfl rfl h1p (by simp) (by kernel_rfl) ?_
 intro wz hcz hBz
 have hSz : St wz F g dg B1.s (some B1.D.bs.length) := hSp.cell hcz (fun mg' lg' hB' => by
   have e := Bk.same hB' h1p
   unfold stC at e
   simp only [List.cons.injEq, Value.map.injEq, Option.some.injEq, and_true, true_and] at e
   obtain ⟨rfl, rfl, _⟩ := e
   exact hBz) (fun n hn => by obtain rfl := Option.some.inj hn; omega)
 have hDz := hDp.chg hcz fun k hk hkg => by subst hkg; exact hdp _ hS14.own hk
 have hWz : Chg (fun k => k = g ∨ Fd1 k) w14 wz := hWp.trans (hcz.mono fun k hk => Or.inl hk)
 refine W.nil (At.thenCode (C.region (W.move rfl rfl ?_)))
 refine W.call Tryz.call70 rfl (Mbx.settle_ok F _ g dg rv ⟨putD B1.D x, B1.s, some B1.D.bs.length⟩ _ hSz hDz hdp) rfl ?_
 rintro v44 w44 ⟨rfl, hK44⟩
 rw [← hpb] at hK44
 refine W.nil (At.thenCode (C.seq (C.region (W.move rfl rfl (W.assign rfl rfl (W.nil (At.thenCode (C.ret ?_))))))))
 refine At.ret1 Tryz.results37 rfl ?_
 rw [hke, hkb]
 exact ⟨rfl, Kept.then hs14 hK14.chg hF14 (Kept.then hWz.size hWz hFp hK44)⟩
 have heq : putE B1.D x = 0 := by omega
 have hpb : putB B1 x = ⟨putD B1.D x, B1.s, none⟩ := by unfold putB; rw [if_pos heq]
 refine C.skip (At.thenCode (C.seq (C.region (W.move rfl rfl (W.assign rfl rfl (W.nil (At.thenCode (C.ret ?_))))))))
 refine At.ret1 Tryz.results37 rfl ?_
 rw [hke, hkb, hpb]
 rw [how] at hSp
 exact ⟨rfl, Kept.then hs14 hK14.chg hF14 ⟨⟨_, hDp, hFp⟩, hSp, hWp⟩⟩
 have hae : ¬ appE B1.D (recB x) = 0 := by omega
 obtain ⟨hpe, hpd⟩ := putE_ne hae
 have hDp := hD29
 rw [← hpd] at hDp
 rw [← hpe]
 have hSp := hS29
 have hWp := hW29
 have hFp := hF29
 have hdp := hd29
 have h1p := h12'
 refine C.skip (At.thenCode (C.seq (C.seq (C.region (W.move rfl rfl (W.neqI rfl rfl rfl (W.nil (At.thenCode ?_))))))))
 refine C.condD rfl (fun c38 => ?_) (fun c38 => ?_)
 have hne : ¬ putE B1.D x = 0 := by omega
 have hpb : putB B1 x = settleB ⟨putD B1.D x, B1.s, some B1.D.bs.length⟩ := by unfold putB; rw [if_neg hne]
 refine C.seq (C.region (W.move rfl rfl (W.move rfl rfl (W.nilCheck rfl rfl (W.fieldB (off := 4) (size := 1) (t := 3) (Fld.of (by kernel_rfl)) rfl rfl rfl ?_)))))
 refine W.store1 rfl rfl rfl h1p (by simp) (by kernel_rfl) ?_
 intro wz hcz hBz
 have hSz : St wz F g dg B1.s (some B1.D.bs.length) := hSp.cell hcz (fun mg' lg' hB' => by
   have e := Bk.same hB' h1p
   unfold stC at e
   simp only [List.cons.injEq, Value.map.injEq, Option.some.injEq, and_true, true_and] at e
   obtain ⟨rfl, rfl, _⟩ := e
   exact hBz) (fun n hn => by obtain rfl := Option.some.inj hn; omega)
 have hDz := hDp.chg hcz fun k hk hkg => by subst hkg; exact hdp _ hS14.own hk
 have hWz : Chg (fun k => k = g ∨ Fd1 k) w14 wz := hWp.trans (hcz.mono fun k hk => Or.inl hk)
 refine W.nil (At.thenCode (C.region (W.move rfl rfl ?_)))
 refine W.call Tryz.call70 rfl (Mbx.settle_ok F _ g dg rv ⟨putD B1.D x, B1.s, some B1.D.bs.length⟩ _ hSz hDz hdp) rfl ?_
 rintro v44 w44 ⟨rfl, hK44⟩
 rw [← hpb] at hK44
 refine W.nil (At.thenCode (C.seq (C.region (W.move rfl rfl (W.assign rfl rfl (W.nil (At.thenCode (C.ret ?_))))))))
 refine At.ret1 Tryz.results37 rfl ?_
 rw [hke, hkb]
 exact ⟨rfl, Kept.then hs14 hK14.chg hF14 (Kept.then hWz.size hWz hFp hK44)⟩
 have heq : putE B1.D x = 0 := by omega
 have hpb : putB B1 x = ⟨putD B1.D x, B1.s, none⟩ := by unfold putB; rw [if_pos heq]
 refine C.skip (At.thenCode (C.seq (C.region (W.move rfl rfl (W.assign rfl rfl (W.nil (At.thenCode (C.ret ?_))))))))
 refine At.ret1 Tryz.results37 rfl ?_
 exact absurd (hpe.symm.trans heq) hae
end Go.Proofs.YthiijdbiikljpaaGreat.Mbx
namespace Go.Proofs.YthiijdbiikljpaaGreat.Mbx
open Go Go.RowKit Go.Proofs.YthiijdbiikljpaaGreat.KW Go.Proofs.YthiijdbiikljpaaGreat.Words Go.Proofs.YthiijdbiikljpaaGreat.Sha Go.Proofs.YthiijdbiikljpaaGreat.RSha Go.Proofs.YthiijdbiikljpaaGreat.Grp Go.Proofs.YthiijdbiikljpaaGreat.Cod Go.Proofs.YthiijdbiikljpaaGreat.Disk
set_option linter.unusedVariables false
set_option linter.unusedSimpArgs false
set_option maxRecDepth 100000
def RPub : RdT Nat := fun _ _ cs n => cs.length = 10 ∧ (∀ u ∈ cs, u.oneCell' = true) ∧ cs[3]? = some (.int .u64 (n : Int)) ∧ n < M64
theorem rPub : RdOk RPub := ⟨fun h _ => h, fun h _ => h, fun h => h.2.1⟩
theorem EPub : Elem Tryz.prog 88 10 80 (.agg (List.replicate 10 (.int .u64 0)).toArray) := Elem.of (by kernel_rfl) rfl rfl
theorem proved1_ok (x n : Nat) (pc : List Value) (w : World) (hx : x < 18446744073709551616) (hp : RPub (fun _ => False) w pc n) :
   Ct Tryz.prog 64 #[.int .u64 (x : Int), .agg pc.toArray] w (fun v w' => v = .bool (decide (timesV 37 x = n)) ∧ Ext w w') := by
 refine Ct.enter [(0, .int .u64 (x : Int)), (1, .agg pc.toArray)] Tryz.func64 rfl rfl rfl rfl ?_
 refine C.seq (C.region ?_)
 refine W.box pc rfl rfl rfl ?_
 intro g3 w3 hg3 hX3 hB3
 refine W.assign rfl rfl (W.nil (At.thenCode (C.seq ?_)))
 refine C.regionAny 6 (E_ (.int .u64 (x : Int)) :: E_ (.int .u64 ((timesV 37 x : Nat) : Int)) :: E_ (.pointer (some ⟨g3, 3, none⟩)) :: E_ (.int .u64 (n : Int)) :: E_ (.bool (decide (timesV 37 x = n))) :: E_ (.bool (decide (timesV 37 x = n))) :: []) [(0, .int .u64 (x : Int)), (3, .pointer (some ⟨g3, 0, none⟩))] [] (sc rfl (sc rfl (Sub.nil))) (Sub.nil) (sc rfl (sc rfl (Sub.nil))) (by kernel_rfl) rfl rfl rfl (sN (sN (sN (sN (sN (sN (trivial))))))) ?_ ?_
 refine And.intro (mB rfl rfl (fun _ => rfl) rfl) ?_
 refine And.intro ?_ ?_
 intro L_ wr hX_ hs_ hf_ hd_
 obtain ⟨_, e0, rfl⟩ := hd_ 0 rfl
 refine W.s1 (e0 _ rfl) ?_
 refine W.call Tryz.call65 rfl (Grp.Base_ok x hx _) rfl ?_
 rintro v6 w6 ⟨rfl, rfl⟩
 exact W.e0 rfl
 refine And.intro ?_ ?_
 intro L_ wr hX_ hs_ hf_ hd_
 exact W.s1 (hs_ 3 _ rfl) (W.fieldB (off := 3) (size := 1) (t := 83) (Fld.of (by kernel_rfl)) rfl rfl rfl (W.e0 rfl))
 refine And.intro ?_ ?_
 intro L_ wr hX_ hs_ hf_ hd_
 obtain ⟨_, e2, rfl⟩ := hd_ 2 rfl
 refine W.s1 (e2 _ rfl) ?_
 refine W.loadB (v := .int .u64 (n : Int)) rfl Tryz.underlying83 rfl (hB3.ext hX_) hp.2.2.1 rfl ?_
 exact W.e0 rfl
 refine And.intro ?_ ?_
 intro L_ wr hX_ hs_ hf_ hd_
 obtain ⟨_, e1, rfl⟩ := hd_ 1 rfl
 obtain ⟨_, e3, rfl⟩ := hd_ 3 rfl
 refine W.s2 (e1 _ rfl) (e3 _ rfl) ?_
 refine W.eqlU rfl rfl rfl ?_
 exact W.e0 rfl
 refine And.intro ?_ ?_
 intro L_ wr hX_ hs_ hf_ hd_
 obtain ⟨_, e4, rfl⟩ := hd_ 4 rfl
 exact W.s1 (e4 _ rfl) (W.assign rfl rfl (W.e0 rfl))
 exact trivial
 intro L_ wr hX1 hs_ hv_
 obtain ⟨_, e5, rfl⟩ := hv_ 5 (by decide)
 refine W.weaken (l' := [(4, _), (0, _), (3, _)]) (sc (e5 _ rfl) (sc (hs_ _ _ rfl) (sc (hs_ _ _ rfl) (Sub.nil)))) ?_
 refine W.nil (At.thenCode (C.ret ?_))
 refine At.ret1 Tryz.results64 rfl ?_
 exact ⟨rfl, hX3.ext hX1⟩
theorem EqualFunc_ok (a : Option Addr) (c : Nat) (xs : List Nat) (a' : Option Addr) (c' : Nat) (ps : List Nat) (w : World) (hx : Us w a c xs) (hxb : ∀ x ∈ xs, x < 18446744073709551616) (hp : Els (fun _ => False) w 10 RPub a' c' ps) (hl : xs.length ≤ 9223372036854775807) (hl' : ps.length ≤ 9223372036854775807) :
   Ct Tryz.prog 63 #[.slice a xs.length c, .slice a' ps.length c', .func (.func 64) #[] #[]] w (fun v w' => v = .bool (provedB xs ps) ∧ Ext w w') := by
 refine Ct.enter [(0, .slice a xs.length c), (1, .slice a' ps.length c'), (2, .func (.func 64) #[] #[])] Tryz.func63 rfl rfl rfl rfl ?_
 refine C.seq (C.region (W.assign rfl rfl (W.nil (At.thenCode (C.seq (C.seq (C.region (W.move rfl rfl (W.lenS rfl Tryz.underlying36 rfl (W.move rfl rfl (W.lenS rfl Tryz.underlying40 rfl ?_)))))))))))
 refine W.neqI rfl rfl rfl (W.nil (At.thenCode ?_))
 refine C.condD rfl (fun c14 => ?_) (fun c14 => ?_)
 refine C.seq (C.region (W.assign rfl rfl (W.nil (At.thenCode (C.ret (At.thenRet ?_))))))
 refine At.ret1 Tryz.results63 rfl ?_
 have : provedB xs ps = false := decide_eq_false fun h => c14 (by have := congrArg List.length h; simp at this; omega)
 rw [this]
 exact ⟨rfl, Ext.refl _⟩
 have hlen : xs.length = ps.length := by omega
 refine C.skip (At.thenCode (C.seq (C.seq (C.region (W.move rfl rfl (W.lenS rfl Tryz.underlying36 rfl (W.move rfl rfl (W.nil (At.thenCode (C.block ?_))))))))))
 refine C.loop (X := Nat) (fun x_ => [(1, .slice a' ps.length c'), (2, .func (.func 64) #[] #[]), (15, .slice a xs.length c), (16, .int .i64 (xs.length : Int)), (17, .int .i64 (x_ : Int))]) (fun x_ w1 => x_ ≤ xs.length ∧ Ext w w1 ∧ (xs.take x_).map (timesV 37) = ps.take x_) (fun x_ => xs.length - x_) (0) (sc rfl (sc rfl (sc rfl (sc rfl (sc rfl (Sub.nil)))))) ?start1 ?_
 case start1 =>
   show (0) ≤ xs.length ∧ Ext w _ ∧ (xs.take (0)).map (timesV 37) = ps.take (0)
   exact ⟨by omega, Ext.refl _, rfl⟩
 rintro i w1 hI_
 replace hI_ : i ≤ xs.length ∧ Ext w w1 ∧ (xs.take i).map (timesV 37) = ps.take i := hI_
 obtain ⟨hi, hX1, hE1⟩ := hI_
 refine C.weaken (l' := [(1, .slice a' ps.length c'), (2, .func (.func 64) #[] #[]), (15, .slice a xs.length c), (16, .int .i64 (xs.length : Int)), (17, .int .i64 (i : Int))]) (sc rfl (sc rfl (sc rfl (sc rfl (sc rfl (Sub.nil)))))) ?_
 refine C.seq (C.region (W.lssI rfl rfl rfl (W.nil (At.thenCode (C.seq ?_)))))
 refine C.condD rfl (fun c18 => ?_) (fun c18 => ?_)
 have hlt : i < xs.length := by omega
 have hlt' : i < ps.length := by omega
 refine C.skip (At.thenCode (C.seq (C.block (C.seq (C.region (W.move rfl rfl ?_))))))
 refine W.indexS (i := (i : Int)) X64 Tryz.underlying36 rfl (hx.ext hX1) rfl ⟨by omega, by omega⟩ rfl ?_
 intro ad20 _ _ hc20
 refine W.load (v := .int .u64 ((xs[i]'hlt : Nat) : Int)) rfl Tryz.underlying83 rfl (by have h := hc20 0 (.int .u64 ((xs[i]'hlt : Nat) : Int)) (by rw [List.getElem?_drop, Nat.add_zero, Nat.mul_one, show ((i : Int).toNat) = i from rfl, get_u64 hlt]); rwa [add_zero'] at h) rfl ?_
 refine W.assign rfl rfl (W.assign rfl rfl (W.nil (At.thenCode (C.seq (C.region (W.move rfl rfl (W.move rfl rfl ?_)))))))
 refine W.indexE EPub Tryz.underlying40 rfl (hp.ext rPub hX1) rfl hlt' rfl ?_
 rintro ad24 pc24 hc24 hR24 hl24
 refine W.loadA rfl hc24 Tryz.underlying88 rfl (by rw [hl24]; kernel_rfl) rfl ?_
 refine W.alloc (z := .agg (List.replicate 10 (.int .u64 0)).toArray) (List.replicate 10 (.int .u64 0)) (by kernel_rfl) rfl rfl ?_
 intro g9 w9 hg9 hX9 hB9
 refine W.storeA pc24 rfl rfl hB9 (by rw [hl24]; rfl) (by rw [hl24]; kernel_rfl) hR24.2.1 ?_
 intro w10 hc10 hB10
 have hX10 : Ext w1 w10 := hX9.news hc10 fun k hk => Or.inr (by omega)
 refine W.nil (At.thenCode (C.seq (C.region (W.move rfl rfl (W.move rfl rfl ?_)))))
 refine W.loadA rfl (hB10.cells (o := 0)) Tryz.underlying88 rfl (by rw [List.drop_zero, hl24]; kernel_rfl) rfl ?_
 rw [List.drop_zero]
 refine W.callV (caps := []) Tryz.call64 rfl rfl (Mbx.proved1_ok (xs[i]'hlt) (ps[i]'hlt') pc24 _ (hxb _ (List.getElem_mem hlt)) hR24) rfl ?_
 rintro v29 w29 ⟨rfl, hX29⟩
 refine W.notD rfl rfl ?_
 refine W.nil (At.thenCode ?_)
 refine C.condD rfl (fun c30 => ?_) (fun c30 => ?_)
 refine C.seq (C.region (W.assign rfl rfl (W.nil (At.thenCode (C.ret (At.blockRet (At.thenRet (At.thenRet (At.blockRet (At.thenRet ?_))))))))))
 refine At.ret1 Tryz.results63 rfl ?_
 have hq : ¬ timesV 37 (xs[i]'hlt) = ps[i]'hlt' := by simpa using c30
 have : provedB xs ps = false := decide_eq_false fun h => hq (by
   have h1 : (xs.map (timesV 37))[i]? = ps[i]? := by rw [h]
   rw [List.getElem?_map, List.getElem?_eq_getElem hlt, List.getElem?_eq_getElem hlt'] at h1
   simpa using h1)
 rw [this]
 exact ⟨rfl, (hX1.ext hX10).ext hX29⟩
 refine C.skip (At.blockNormal (At.thenCode (C.region ?_)))
 refine W.addI rfl rfl (by omega) rfl ?_
 refine W.move rfl rfl (W.nil ?_)
 have hq : timesV 37 (xs[i]'hlt) = ps[i]'hlt' := by simpa using c30
 refine At.thenRound (i + 1) (sc rfl (sc rfl (sc rfl (sc rfl (sc (look_eq rfl (iV (by omega))) (Sub.nil)))))) (show (i + 1) ≤ xs.length ∧ Ext w _ ∧ (xs.take (i + 1)).map (timesV 37) = ps.take (i + 1) from ?_) (show xs.length - (i + 1) < xs.length - i from ?_)
 refine ⟨by omega, (hX1.ext hX10).ext hX29, ?_⟩
 rw [List.take_succ_eq_append_getElem hlt, List.take_succ_eq_append_getElem hlt', List.map_append, hE1, List.map_singleton, hq]
 omega
 have hi' : i = xs.length := by omega
 subst hi'
 refine C.exit (At.thenExit (At.thenExit (At.blockSelf (At.thenCode (C.seq (C.region (W.assign rfl rfl (W.nil (At.thenCode (C.ret ?_))))))))))
 refine At.ret1 Tryz.results63 rfl ?_
 have : provedB xs ps = true := decide_eq_true (by rw [List.take_length] at hE1; rw [hE1, hlen, List.take_length])
 rw [this]
 exact ⟨rfl, hX1⟩
theorem proved_ok (a : Option Addr) (c : Nat) (xs : List Nat) (a' : Option Addr) (c' : Nat) (ps : List Nat) (w : World) (hx : Us w a c xs) (hxb : ∀ x ∈ xs, x < 18446744073709551616) (hp : Els (fun _ => False) w 10 RPub a' c' ps) (hl : xs.length ≤ 9223372036854775807) (hl' : ps.length ≤ 9223372036854775807) :
   Ct Tryz.prog 35 #[.slice a xs.length c, .slice a' ps.length c'] w (fun v w' => v = .bool (provedB xs ps) ∧ Ext w w') := by
 refine Ct.enter [(0, .slice a xs.length c), (1, .slice a' ps.length c')] Tryz.func35 rfl rfl rfl rfl ?_
 refine C.seq (C.region (W.assign rfl rfl (W.nil (At.thenCode (C.seq (C.region (W.move rfl rfl (W.move rfl rfl ?_))))))))
 refine W.call Tryz.call63 rfl (Mbx.EqualFunc_ok a c xs a' c' ps _ hx hxb hp hl hl') rfl ?_
 rintro v7 w7 ⟨rfl, hX7⟩
 refine W.assign rfl rfl (W.nil (At.thenCode (C.ret ?_)))
 refine At.ret1 Tryz.results35 rfl ?_
 exact ⟨rfl, hX7⟩
end Go.Proofs.YthiijdbiikljpaaGreat.Mbx
namespace Go.Proofs.YthiijdbiikljpaaGreat.Mbx
open Go Go.RowKit Go.Proofs.YthiijdbiikljpaaGreat.KW Go.Proofs.YthiijdbiikljpaaGreat.Words Go.Proofs.YthiijdbiikljpaaGreat.Sha Go.Proofs.YthiijdbiikljpaaGreat.RSha Go.Proofs.YthiijdbiikljpaaGreat.Grp Go.Proofs.YthiijdbiikljpaaGreat.Cod Go.Proofs.YthiijdbiikljpaaGreat.Disk
set_option linter.unusedVariables false
set_option linter.unusedSimpArgs false
set_option maxRecDepth 100000
theorem LM.put {w wz : World} {F Z X : Nat → Prop} {b : Nat} {f f' : Hs} {es E : List MapEntry} {c C J : Nat} {e0 : MapEntry} {v : Value} {k : List UInt8} (hL : LM w F Z X b f es c) (hs : Sets w F Z X) (hZ : Z b) (hk : k.length = 32)
   (hp : Pre es c (keyV k) (.slice none 0 0) E C J e0) (hm : Mp Tryz.prog 43 wz b (E.set J ⟨keyV k, v, e0.born⟩) C) (hch : Chg (fun q => q = b ∨ e0.val.ownBlock = some q) w wz)
   (ho : OwE (fun q => X q ∧ q < w.heap.size) wz 0 100 2 RHeld v (f' k)) (hv : v.ownBlock = e0.val.ownBlock ∨ ∀ q, v.ownBlock = some q → w.heap.size ≤ q) (hf : ∀ name, name ≠ k → f' name = f name) :
   ∃ X', LM wz (Grown F w wz) Z X' b f' (E.set J ⟨keyV k, v, e0.born⟩) C ∧ Sets wz (Grown F w wz) Z X' := by
 have hsz := hch.size
 -- the old rows
 have hold : ∀ q, e0.val.ownBlock = some q → F q ∧ X q ∧ ¬ Z q := by
   intro q hq
   rcases hp.is with ⟨_, rfl, _⟩ | ⟨rfl, _⟩
   cases hq
   exact hL.rows e0 (List.mem_of_getElem? hp.get) q hq
 have hvq : ∀ q, v.ownBlock = some q → Grown F w wz q ∧ (X q ∨ w.heap.size ≤ q) ∧ ¬ Z q := by
   intro q hq
   have hlt := (OwE.lt ho q hq).2
   rcases hv with h | h
   rw [h] at hq
   obtain ⟨h1, h2, h3⟩ := hold q hq
   exact ⟨.inl h1, .inl h2, h3⟩
   have := h q hq
   exact ⟨.inr ⟨this, hlt⟩, .inr this, fun hz => by have := hs.lt q (hs.zf q hz); omega⟩
 let X' : Nat → Prop := fun q => ¬ Grown F w wz q ∨ (X q ∧ q < w.heap.size) ∨ v.ownBlock = some q
 have hFX : ∀ q, ¬ Grown F w wz q → q < wz.heap.size → X q ∧ q < w.heap.size := fun q hq hlt => by
   have h1 : ¬ F q := fun h => hq (.inl h)
   have h2 : ¬ w.heap.size ≤ q := fun h => hq (.inr ⟨h, hlt⟩)
   exact ⟨hs.fx q h1, by omega⟩
 -- another entry, of the elder ones
 have hother : ∀ (m : Nat) (x : MapEntry), (E.set J ⟨keyV k, v, e0.born⟩)[m]? = some x → m ≠ J → x ∈ es ∧ x.key ≠ keyV k ∧ ∀ q, x.val.ownBlock = some q → e0.val.ownBlock ≠ some q := by
   intro m x hx hmJ
   rw [List.getElem?_set_ne (fun e => hmJ e.symm)] at hx
   rcases hp.is with ⟨h1, h2, rfl, rfl, _⟩ | ⟨rfl, rfl⟩
   have hlt : m < es.length := by
     have := (List.getElem?_eq_some_iff.1 hx).1
     simp at this
     omega
   rw [List.getElem?_append_left hlt] at hx
   have hxm := List.mem_of_getElem? hx
   exact ⟨hxm, h1 x hxm, fun q _ hq => by rw [h2] at hq; cases hq⟩
   have hxm := List.mem_of_getElem? hx
   refine ⟨hxm, fun hxk => hmJ (hL.mp.uniq hx hp.get (hxk.trans hp.key.symm)), fun q hq hq' => ?_⟩
   obtain ⟨h1, hx1⟩ := List.getElem?_eq_some_iff.1 hx
   obtain ⟨h2, hx2⟩ := List.getElem?_eq_some_iff.1 hp.get
   rcases Nat.lt_or_gt_of_ne hmJ with h3 | h3
   exact List.pairwise_iff_getElem.1 hL.apart m J h1 h2 h3 q (by rw [hx1]; exact hq) (by rw [hx2]; exact hq')
   exact List.pairwise_iff_getElem.1 hL.apart J m h2 h1 h3 q (by rw [hx2]; exact hq') (by rw [hx1]; exact hq)
 have hJ : J < E.length := (List.getElem?_eq_some_iff.1 hp.get).1
 refine ⟨X', ⟨hm, ?_, ?_, ?_, ?_⟩, ⟨fun q hq => .inl (hs.zf q hq), fun q hq => .inr (.inl ⟨hs.zx q hq, hs.lt q (hs.zf q hq)⟩), fun q hq => .inl hq, Grown.lt hs.lt hsz⟩⟩
 intro x hx
 obtain ⟨m, hm'⟩ := List.mem_iff_getElem?.1 hx
 by_cases hmJ : m = J
 subst hmJ
 rw [List.getElem?_set_self hJ] at hm'
 obtain rfl := Option.some.inj hm'
 refine ⟨k, hk, rfl, OwE.new rHeld ho fun q hq hlt => ?_⟩
 rcases hq with hq | hq | hq
 exact .inl (hFX q hq hlt)
 exact .inl hq
 exact .inr hq
 obtain ⟨h1, h2, h3⟩ := hother m x hm' hmJ
 obtain ⟨name, n1, n2, n3⟩ := hL.sound x h1
 refine ⟨name, n1, n2, ?_⟩
 rw [hf name (fun e => h2 (by rw [n2, e]))]
 have hr := hL.rows x h1
 have h4 : OwE X wz 0 100 2 RHeld x.val (f name) := OwE.chgS rHeld n3 hch (fun q hq => by
   rcases hq with rfl | hq
   exact hs.zx _ hZ
   exact (hold q hq).2.1) fun q hq hqS => by
   rcases hqS with rfl | hqS
   exact (hr _ hq).2.2 hZ
   exact h3 q hq hqS
 refine OwE.new rHeld h4 fun q hq hlt => .inl ?_
 rcases hq with hq | hq | hq
 exact (hFX q hq hlt).1
 exact hq.1
 rcases (hvq q hq).2.1 with h5 | h5
 exact h5
 exact hs.fx q fun h6 => by have := hs.lt q h6; omega
 intro name hn hne
 by_cases hnk : name = k
 subst hnk
 exact ⟨_, List.mem_of_getElem? (List.getElem?_set_self hJ), rfl⟩
 rw [hf name hnk] at hne
 obtain ⟨x, hx, hxk⟩ := hL.whole name hn hne
 obtain ⟨m, hm'⟩ := List.mem_iff_getElem?.1 hx
 have hE : E[m]? = some x := by
   rcases hp.is with ⟨_, _, rfl, _⟩ | ⟨rfl, _⟩
   rw [List.getElem?_append_left (List.getElem?_eq_some_iff.1 hm').1]; exact hm'
   exact hm'
 have hmJ : m ≠ J := fun e => by
   subst e
   have := Option.some.inj (hE.symm.trans hp.get)
   subst this
   exact hnk (keyV_inj (hxk.symm.trans hp.key))
 exact ⟨x, List.mem_of_getElem? (by rw [List.getElem?_set_ne (fun e => hmJ e.symm)]; exact hE), hxk⟩
 intro x hx q hq
 obtain ⟨m, hm'⟩ := List.mem_iff_getElem?.1 hx
 by_cases hmJ : m = J
 subst hmJ
 rw [List.getElem?_set_self hJ] at hm'
 obtain rfl := Option.some.inj hm'
 obtain ⟨h1, h2, h3⟩ := hvq q hq
 exact ⟨h1, .inr (.inr hq), h3⟩
 obtain ⟨h1, _, _⟩ := hother m x hm' hmJ
 obtain ⟨r1, r2, r3⟩ := hL.rows x h1 q hq
 exact ⟨.inl r1, .inr (.inl ⟨r2, hs.lt q r1⟩), r3⟩
 have hne : ∀ (m : Nat) (x : MapEntry), (E.set J ⟨keyV k, v, e0.born⟩)[m]? = some x → m ≠ J → ∀ q, x.val.ownBlock = some q → v.ownBlock ≠ some q := by
   intro m x hx hmJ q hq hvq'
   obtain ⟨h1, _, h3⟩ := hother m x hx hmJ
   rcases hv with h | h
   rw [h] at hvq'; exact h3 q hq hvq'
   have := h q hvq'
   have := hs.lt q (hL.rows x h1 q hq).1
   omega
 refine List.pairwise_iff_getElem.2 fun i j hi hj hij q hq hq' => ?_
 by_cases hiJ : i = J
 subst hiJ
 refine hne j _ (List.getElem?_eq_getElem hj) (by omega) q hq' ?_
 have : (E.set i ⟨keyV k, v, e0.born⟩)[i]'hi = ⟨keyV k, v, e0.born⟩ := by rw [List.getElem_set_self]
 rw [this] at hq
 exact hq
 by_cases hjJ : j = J
 subst hjJ
 refine hne i _ (List.getElem?_eq_getElem hi) hiJ q hq ?_
 have : (E.set j ⟨keyV k, v, e0.born⟩)[j]'hj = ⟨keyV k, v, e0.born⟩ := by rw [List.getElem_set_self]
 rw [this] at hq'
 exact hq'
 have hi' : i < E.length := by simpa using hi
 have hj' : j < E.length := by simpa using hj
 have e1 : (E.set J ⟨keyV k, v, e0.born⟩)[i]'hi = E[i] := List.getElem_set_ne (fun e => hiJ e.symm) _
 have e2 : (E.set J ⟨keyV k, v, e0.born⟩)[j]'hj = E[j] := List.getElem_set_ne (fun e => hjJ e.symm) _
 rw [e1] at hq
 rw [e2] at hq'
 rcases hp.is with ⟨_, h2, rfl, rfl, _⟩ | ⟨rfl, rfl⟩
 have hi2 : i < es.length := by simp at hi'; omega
 have hj2 : j < es.length := by simp at hj'; omega
 rw [List.getElem_append_left hi2] at hq
 rw [List.getElem_append_left hj2] at hq'
 exact List.pairwise_iff_getElem.1 hL.apart i j hi2 hj2 hij q hq hq'
 exact List.pairwise_iff_getElem.1 hL.apart i j hi' hj' hij q hq hq'
theorem LM.at {w : World} {F Z X : Nat → Prop} {b : Nat} {f : Hs} {es E : List MapEntry} {c C J : Nat} {e0 : MapEntry} {k : List UInt8} (hL : LM w F Z X b f es c) (hk : k.length = 32) (hp : Pre es c (keyV k) (.slice none 0 0) E C J e0) :
   OwE X w 0 100 2 RHeld e0.val (f k) ∧ ∀ q, e0.val.ownBlock = some q → F q ∧ X q ∧ ¬ Z q := by
 rcases hp.is with ⟨h1, rfl, _⟩ | ⟨rfl, _⟩
 have : f k = [] := by
   rcases Classical.em (f k = []) with h | h
   exact h
   obtain ⟨x, hx, hxk⟩ := hL.whole k hk h
   exact absurd hxk (h1 x hx)
 rw [this]
 exact ⟨OwE.nil _ _ _ _ _ _, fun q hq => by cases hq⟩
 have hm := List.mem_of_getElem? hp.get
 obtain ⟨name, n1, n2, n3⟩ := hL.sound e0 hm
 obtain rfl := keyV_inj (n2.symm.trans hp.key)
 exact ⟨n3, hL.rows e0 hm⟩
end Go.Proofs.YthiijdbiikljpaaGreat.Mbx
namespace Go.Proofs.YthiijdbiikljpaaGreat.Mbx
open Go Go.RowKit Go.Proofs.YthiijdbiikljpaaGreat.KW Go.Proofs.YthiijdbiikljpaaGreat.Words Go.Proofs.YthiijdbiikljpaaGreat.Sha Go.Proofs.YthiijdbiikljpaaGreat.RSha Go.Proofs.YthiijdbiikljpaaGreat.Grp Go.Proofs.YthiijdbiikljpaaGreat.Cod Go.Proofs.YthiijdbiikljpaaGreat.Disk
set_option linter.unusedVariables false
set_option linter.unusedSimpArgs false
set_option maxRecDepth 100000
theorem batE_small {x : BatD} (h : batE x = 0) : x.inner.length ≤ 20 ∧ x.lets.length ≤ 1000 ∧ ∀ p ∈ x.lets, p.2.length ≤ 1048576 := by
 unfold batE at h
 split at h
 cases h
 rename_i hn
 refine ⟨?_, ?_, fun p hp => ?_⟩
 rcases Nat.lt_or_ge 20 x.inner.length with h1 | h1
 exact absurd (.inl h1) hn
 exact h1
 rcases Nat.lt_or_ge 1000 x.lets.length with h1 | h1
 exact absurd (.inr (.inl h1)) hn
 exact h1
 rcases Nat.lt_or_ge 1048576 p.2.length with h1 | h1
 exact absurd (.inr (.inr ⟨p, hp, h1⟩)) hn
 exact h1
theorem heldX_len (x : BatD) (n : Nat) (name : List UInt8) : (heldX x n name).length ≤ x.lets.length := by
 unfold heldX
 rw [List.length_map]
 have h1 := List.length_filter_le (fun p : Let => decide (p.1 = name)) (x.lets.take n)
 rw [List.length_take] at h1
 omega
theorem heldL_len {l : List BatD} {m : Nat} (h : ∀ x ∈ l, x.lets.length ≤ m) (name : List UInt8) : (heldL l name).length ≤ l.length * m := by
 induction l with
 | nil => exact Nat.zero_le _
 | cons x t ih =>
   have e1 : heldL (x :: t) name = heldX x x.lets.length name ++ heldL t name := rfl
   rw [e1, List.length_append, List.length_cons, Nat.succ_mul]
   have h1 := ih fun y hy => h y (by simp [hy])
   have h2 := heldX_len x x.lets.length name
   have h3 := h x (by simp)
   omega
theorem Sets.mono {w w' : World} {F Z X : Nat → Prop} (h : Sets w F Z X) (hs : w.heap.size ≤ w'.heap.size) : Sets w' F Z X := ⟨h.zf, h.zx, h.fx, fun k hk => Nat.lt_of_lt_of_le (h.lt k hk) hs⟩
theorem take_ok (F : Nat → Prop) (g dg : Nat) (s : Bag) (o : Option Nat) (x : BatD) (vi vl : Value) (w : World) (hS : St w F g dg s o) (hb : BatM F w x vi vl) (hn : hasL s.l x.round x.chain = false) (hE0 : batE x = 0) (hsl : s.l.length ≤ 1000000000) :
   Ct Tryz.prog 38 #[.pointer (some ⟨g, 0, none⟩), .agg (batC x vi vl).toArray] w (fun v w' => ∃ F' : Nat → Prop, St w' F' g dg (takeS s x) o ∧ (∀ k, F k → F' k) ∧ (∀ k, F' k → F k ∨ w.heap.size ≤ k) ∧ Chg F w w') := by
 obtain ⟨mg, lg, X, es1, c1, es2, c2, h1, h2, h3, h4, h5⟩ := hS.out
 have hir : InI x.round := hb.ok.1
 have hic : InI x.chain := hb.ok.2.1
 obtain ⟨hsi, hsm, hsb⟩ := batE_small hE0
 obtain ⟨lk, hlk⟩ := keyP hir hic
 obtain ⟨al, cl, rfl, hEl⟩ := RSl.form hb.lets
 have hlt := hS.lt
 have hgF := hS.own
 have hmF : F mg := h4.zf _ (.inr (.inl rfl))
 have hlF : F lg := h4.zf _ (.inr (.inr rfl))
 have hZl : Zof g mg lg lg := .inr (.inr rfl)
 have hZm : Zof g mg lg mg := .inr (.inl rfl)
 have hZg : Zof g mg lg g := .inl rfl
 have hold : ∀ name, (heldL s.l name).length ≤ 1000000000000 := fun name => by
   have := heldL_len (l := s.l) (m := 1000) (fun y hy => (batE_small (hS.ok.1 y hy).2).2.1) name
   omega
 refine Ct.enter [(0, .pointer (some ⟨g, 0, none⟩)), (1, .agg (batC x vi (.slice al x.lets.length cl)).toArray)] Tryz.func38 rfl rfl rfl rfl ?_
 refine C.seq (C.region ?_)
 refine W.box (batC x vi (.slice al x.lets.length cl)) rfl rfl rfl ?_
 intro g3 w3 hg3 hX3 hB3
 have h1a := h1.ext hX3
 have h1b : Bk w3 g [.pointer (some ⟨dg, 0, none⟩), .map (some mg), .map (some lg), .int .i64 (s.past : Int), .int .i64 (owedI o)] := h1a
 refine W.nil (At.thenCode (C.seq ?_))
 refine C.regionAny 9 (E_ (.pointer (some ⟨g, 0, none⟩)) :: E_ (.pointer (some ⟨g, 0, none⟩)) :: E_ (.pointer (some ⟨g, 1, none⟩)) :: E_ (.map (some mg)) :: E_ (.pointer (some ⟨g3, 0, none⟩)) :: E_ (.int .i64 x.round) :: E_ (.pointer (some ⟨g3, 1, none⟩)) :: E_ (.int .i64 x.chain) :: E_ (placeV x.round x.chain) :: []) [(0, .pointer (some ⟨g, 0, none⟩)), (3, .pointer (some ⟨g3, 0, none⟩))] [] (sc rfl (sc rfl (Sub.nil))) (Sub.nil) (sc rfl (sc rfl (Sub.nil))) (by kernel_rfl) rfl rfl rfl (sN (sN (sN (sN (sN (sN (sN (sN (sN (trivial)))))))))) ?_ ?_
 refine And.intro (mB rfl rfl (fun _ => rfl) rfl) ?_
 refine And.intro ?_ ?_
 intro L_ wr hX_ hs_ hf_ hd_
 obtain ⟨_, e0, rfl⟩ := hd_ 0 rfl
 exact W.s1 (e0 _ rfl) (W.nilCheck rfl rfl (W.e0 rfl))
 refine And.intro ?_ ?_
 intro L_ wr hX_ hs_ hf_ hd_
 obtain ⟨_, e1, rfl⟩ := hd_ 1 rfl
 exact W.s1 (e1 _ rfl) (W.fieldB (off := 1) (size := 1) (t := 65) (Fld.of (by kernel_rfl)) rfl rfl rfl (W.e0 rfl))
 refine And.intro ?_ ?_
 intro L_ wr hX_ hs_ hf_ hd_
 obtain ⟨_, e2, rfl⟩ := hd_ 2 rfl
 refine W.s1 (e2 _ rfl) ?_
 refine W.loadB (v := .map (some mg)) rfl Tryz.underlying65 rfl (h1b.ext hX_) rfl rfl ?_
 exact W.e0 rfl
 refine And.intro ?_ ?_
 intro L_ wr hX_ hs_ hf_ hd_
 exact W.s1 (hs_ 3 _ rfl) (W.fieldB (off := 0) (size := 1) (t := 3) (Fld.of (by kernel_rfl)) rfl rfl rfl (W.e0 rfl))
 refine And.intro ?_ ?_
 intro L_ wr hX_ hs_ hf_ hd_
 obtain ⟨_, e4, rfl⟩ := hd_ 4 rfl
 refine W.s1 (e4 _ rfl) ?_
 refine W.loadB (v := .int .i64 x.round) rfl Tryz.underlying3 rfl (hB3.ext hX_) rfl rfl ?_
 exact W.e0 rfl
 refine And.intro ?_ ?_
 intro L_ wr hX_ hs_ hf_ hd_
 exact W.s1 (hs_ 3 _ rfl) (W.fieldB (off := 1) (size := 1) (t := 3) (Fld.of (by kernel_rfl)) rfl rfl rfl (W.e0 rfl))
 refine And.intro ?_ ?_
 intro L_ wr hX_ hs_ hf_ hd_
 obtain ⟨_, e6, rfl⟩ := hd_ 6 rfl
 refine W.s1 (e6 _ rfl) ?_
 refine W.loadB (v := .int .i64 x.chain) rfl Tryz.underlying3 rfl (hB3.ext hX_) rfl rfl ?_
 exact W.e0 rfl
 refine And.intro ?_ ?_
 intro L_ wr hX_ hs_ hf_ hd_
 obtain ⟨_, e5, rfl⟩ := hd_ 5 rfl
 obtain ⟨_, e7, rfl⟩ := hd_ 7 rfl
 refine W.s2 (e5 _ rfl) (e7 _ rfl) ?_
 refine W.buildS (fs := _) [(0, 1), (1, 1)] [.int .i64 x.round, .int .i64 x.chain] [(.int .i64 0), (.int .i64 0)] Tryz.underlying125 (by kernel_rfl) (by kernel_rfl) rfl rfl rfl ?_
 exact W.e0 rfl
 exact trivial
 intro L_ wr hX1 hs_ hv_
 obtain ⟨_, e3, rfl⟩ := hv_ 3 (by decide)
 obtain ⟨_, e8, rfl⟩ := hv_ 8 (by decide)
 refine W.weaken (l' := [(9, _), (14, _), (0, _), (3, _)]) (sc (e3 _ rfl) (sc (e8 _ rfl) (sc (hs_ _ _ rfl) (sc (hs_ _ _ rfl) (Sub.nil))))) ?_
 have hX1 := hX3.ext hX1
 refine W.updateM lawP Tryz.underlying65 rfl rfl rfl (h2.mp.ext hX1) hlk ?_
 rintro es1' c1' w2 hC2 hM2 hd2
 have hno : ∀ e ∈ es1, e.key ≠ placeV x.round x.chain := fun e he hk => by
   have := (h2.has x.round x.chain).1 ⟨e, he, hk⟩
   rw [hn] at this; cases this
 obtain ⟨rfl, rfl⟩ : es1' = es1 ++ [⟨placeV x.round x.chain, .bool true, c1⟩] ∧ c1' = c1 + 1 := by
   rcases hd2 with ⟨_, h, h'⟩ | ⟨j, e, hj, hk, _⟩
   exact ⟨h, h'⟩
   exact absurd hk (hno e (List.mem_of_getElem? hj))
 have hA2 : AM w2 mg (s.l ++ [x]) (es1 ++ [⟨placeV x.round x.chain, .bool true, c1⟩]) (c1 + 1) := ⟨hM2, by rw [List.map_append, List.map_append, h2.are]; rfl⟩
 have hC2' : Chg F w w2 := (hX1.mono fun _ c => c.elim).trans (hC2.mono fun k hk => by subst hk; exact hmF)
 have hs2 := hC2'.size
 have h1c : Bk w2 g (stC dg mg lg s.past o) := (h1.ext hX1).chg hC2 h5.1
 have hg3' : g3 = w.heap.size := hg3
 have hB3c : Bk w2 g3 (batC x vi (.slice al x.lets.length cl)) := (hB3.ext ‹Ext w3 wr›).chg hC2 (fun e => by have := hlt mg hmF; omega)
 have hL2 : LM w2 F (Zof g mg lg) X lg (heldL s.l) es2 c2 := (h3.keep h4 hX1 (fun _ c => c.elim) (fun c => c)).keep (h4.mono hX1.size) hC2 (fun k hk => .inl (by subst hk; exact hZm)) h5.2.2.symm
 have hS2 := h4.mono hs2
 have hEl2 : Els (fun k => F k ∨ w.heap.size ≤ k) w2 33 RLet al cl x.lets := (hEl.new rLet (B := fun k => F k ∨ w.heap.size ≤ k) fun k hk hlt => hk.elim id fun h => by omega).chg rLet (hC2'.mono fun k hk => .inl hk)
 have hg3lt := hB3c.lt
 refine W.nil (At.thenCode (C.seq (C.region (W.fieldB (off := 3) (size := 1) (t := 37) (Fld.of (by kernel_rfl)) rfl rfl rfl ?_))))
 refine W.loadB (v := .slice al x.lets.length cl) rfl Tryz.underlying37 rfl hB3c rfl rfl ?_
 refine W.lenS rfl Tryz.underlying37 rfl (W.move rfl rfl (W.nil (At.thenCode (C.block ?_))))
 refine C.loop (X := Nat) (fun x_ => [(0, .pointer (some ⟨g, 0, none⟩)), (3, .pointer (some ⟨g3, 0, none⟩)), (16, .slice al x.lets.length cl), (17, .int .i64 (x.lets.length : Int)), (18, .int .i64 (x_ : Int))]) (fun x_ w1 => x_ ≤ x.lets.length ∧ ∃ (F1 X1 : Nat → Prop) (e2 : List MapEntry) (k2 : Nat), (∀ k, F k → F1 k) ∧ (∀ k, F1 k → F k ∨ w2.heap.size ≤ k) ∧ Chg F w2 w1 ∧ Bk w1 g (stC dg mg lg s.past o) ∧ AM w1 mg (s.l ++ [x]) (es1 ++ [⟨placeV x.round x.chain, .bool true, c1⟩]) (c1 + 1) ∧ LM w1 F1 (Zof g mg lg) X1 lg (fun name => heldL s.l name ++ heldX x x_ name) e2 k2 ∧ Sets w1 F1 (Zof g mg lg) X1) (fun x_ => x.lets.length - x_) (0) (sc rfl (sc rfl (sc rfl (sc rfl (sc rfl (Sub.nil)))))) ?start1 ?_
 case start1 =>
   show (0) ≤ x.lets.length ∧ ∃ (F1 X1 : Nat → Prop) (e2 : List MapEntry) (k2 : Nat), (∀ k, F k → F1 k) ∧ (∀ k, F1 k → F k ∨ w2.heap.size ≤ k) ∧ Chg F w2 _ ∧ Bk _ g (stC dg mg lg s.past o) ∧ AM _ mg (s.l ++ [x]) (es1 ++ [⟨placeV x.round x.chain, .bool true, c1⟩]) (c1 + 1) ∧ LM _ F1 (Zof g mg lg) X1 lg (fun name => heldL s.l name ++ heldX x (0) name) e2 k2 ∧ Sets _ F1 (Zof g mg lg) X1
   refine ⟨by omega, F, X, es2, c2, fun k hk => hk, fun k hk => .inl hk, Chg.refl _ _, h1c, hA2, ?_, hS2⟩
   have : (fun name => heldL s.l name ++ heldX x 0 name) = heldL s.l := by funext name; rw [heldX_zero, List.append_nil]
   rw [this]; exact hL2
 rintro i w1 hI_
 replace hI_ : i ≤ x.lets.length ∧ ∃ (F1 X1 : Nat → Prop) (e2 : List MapEntry) (k2 : Nat), (∀ k, F k → F1 k) ∧ (∀ k, F1 k → F k ∨ w2.heap.size ≤ k) ∧ Chg F w2 w1 ∧ Bk w1 g (stC dg mg lg s.past o) ∧ AM w1 mg (s.l ++ [x]) (es1 ++ [⟨placeV x.round x.chain, .bool true, c1⟩]) (c1 + 1) ∧ LM w1 F1 (Zof g mg lg) X1 lg (fun name => heldL s.l name ++ heldX x i name) e2 k2 ∧ Sets w1 F1 (Zof g mg lg) X1 := hI_
 obtain ⟨hi, F1, X1, e2, k2, hF1, hF1', hC1, hg1, hA1, hL1, hSt1⟩ := hI_
 refine C.weaken (l' := [(0, .pointer (some ⟨g, 0, none⟩)), (3, .pointer (some ⟨g3, 0, none⟩)), (16, .slice al x.lets.length cl), (17, .int .i64 (x.lets.length : Int)), (18, .int .i64 (i : Int))]) (sc rfl (sc rfl (sc rfl (sc rfl (sc rfl (Sub.nil)))))) ?_
 refine C.seq (C.region (W.lssI rfl rfl rfl (W.nil (At.thenCode (C.seq ?_)))))
 refine C.condD rfl (fun c19 => ?_) (fun c19 => ?_)
 have hlti : i < x.lets.length := by omega
 have hEl1 : Els (fun k => F k ∨ w.heap.size ≤ k) w1 33 RLet al cl x.lets := hEl2.chg rLet (hC1.mono fun k hk => .inl hk)
 refine C.skip (At.thenCode (C.seq (C.block (C.seq (C.region ?_)))))
 refine W.indexE ELet Tryz.underlying37 rfl hEl1 rfl hlti rfl ?_
 rintro ad20 cs20 hc20 ⟨vb, rfl, hvb, hKl⟩ hl20
 obtain ⟨K, hK⟩ : ∃ K, K = (x.lets[i]'hlti).1 := ⟨_, rfl⟩
 obtain ⟨B, hB⟩ : ∃ B, B = (x.lets[i]'hlti).2 := ⟨_, rfl⟩
 rw [← hK] at hKl hc20 hl20
 rw [← hB] at hvb
 have hBl : B.length ≤ 1048576 := by rw [hB]; exact hsb _ (List.getElem_mem hlti)
 obtain ⟨ab, cb, rfl, hbs, hbn⟩ := RByt.form hvb
 refine W.loadA rfl hc20 Tryz.underlying58 rfl (by rw [hl20]; kernel_rfl) rfl ?_
 refine W.alloc (z := .agg (List.replicate 32 (byteV 0) ++ [Value.slice none 0 0]).toArray) (List.replicate 32 (byteV 0) ++ [Value.slice none 0 0]) (by kernel_rfl) rfl rfl ?_
 intro g5 w5 hg5 hX5 hB5
 refine W.storeA (K.map byteV ++ [.slice ab B.length cb]) rfl rfl hB5 (by rw [hl20]; rfl) (by rw [hl20]; kernel_rfl) (fun u hu => by
   rcases List.mem_append.1 hu with hu | hu
   exact bytes_oneCell _ u hu
   obtain rfl := List.mem_singleton.1 hu; rfl) ?_
 intro w4 hC4 hB4
 have hX4 : Ext w1 w4 := hX5.news hC4 fun k hk => Or.inr (by omega)
 have hs4 := hX4.size
 have hg4 := hg1.ext hX4
 have hg4' : Bk w4 g [.pointer (some ⟨dg, 0, none⟩), .map (some mg), .map (some lg), .int .i64 (s.past : Int), .int .i64 (owedI o)] := hg4
 have hA4 := hA1.chg hX4 (fun c => c)
 have hL4 := hL1.keep hSt1 hX4 (fun _ c => c.elim) (fun c => c)
 have hSt4 := hSt1.mono hs4
 have hB3d : Bk w4 g3 (batC x vi (.slice al x.lets.length cl)) := (hB3c.chg hC1 (fun hF => by have := hlt _ hF; omega)).ext hX4
 have hbs4 : Bs w4 ab cb B := hbs.ext hX4
 have hF1lt := hSt4.lt
 have hg3n : ¬ F1 g3 := fun hF => by
   rcases hF1' _ hF with h | h
   have := hlt _ h; omega
   omega
 have hg5n : ¬ F1 g5 := fun hF => by have := hSt1.lt _ hF; omega
 obtain ⟨lkK, hlkK⟩ := keyK hKl
 obtain ⟨En, Ck, J, en, hp⟩ := Pre.exist e2 k2 (keyV K) (.slice none 0 0)
 obtain ⟨hrow, hrown⟩ := LM.at hL4 hKl hp
 have hfam : ∀ q b, ((q = 13 ∧ b = lg) ∨ (q = 15 ∧ en.val.ownBlock = some b)) → F1 b ∧ b ≠ g := fun q b hq => by
   rcases hq with ⟨_, rfl⟩ | ⟨_, hq⟩
   exact ⟨hF1 _ hlF, h5.2.1.symm⟩
   exact ⟨(hrown _ hq).1, fun e => (hrown _ hq).2.2 (by rw [e]; exact hZg)⟩
 have hA0 : ∀ q b, ((q = 13 ∧ b = lg) ∨ (q = 15 ∧ en.val.ownBlock = some b)) → b < w4.heap.size := fun q b hq => hF1lt _ (hfam q b hq).1
 have hfk : ((heldL s.l K ++ heldX x i K).length + 1) * 32 ≤ 140737488355328 := by
   have a1 := hold K
   have a2 := heldX_len x i K
   rw [List.length_append]; omega
 refine W.nil (At.thenCode ?_)
 refine C.regionAnyB (fun q b => (q = 13 ∧ b = lg) ∨ (q = 15 ∧ en.val.ownBlock = some b)) 17 (E_ (.pointer (some ⟨g, 0, none⟩)) :: E_ (.pointer (some ⟨g, 0, none⟩)) :: E_ (.pointer (some ⟨g, 2, none⟩)) :: E_ (.map (some lg)) :: E_ (.pointer (some ⟨g5, 0, none⟩)) :: E_ (keyV K) :: E_ (.pointer (some ⟨g3, 0, none⟩)) :: E_ (.int .i64 x.round) :: E_ (.pointer (some ⟨g5, 32, none⟩)) :: E_ (.slice ab B.length cb) :: (fun v w => RByt (fun k => k < w4.heap.size) w [v] B) :: (fun v w => ∃ cs, v = .agg cs.toArray ∧ RHeld (fun k => k < w4.heap.size) w cs (x.round, B) ∧ cs.length = 2) :: (fun v w => ∃ a c, v = .slice a 1 c ∧ Els (fun k => k < w4.heap.size) w 2 RHeld a c [(x.round, B)]) :: (fun v w => v = .tuple #[en.val, .int .i64 (en.born : Int)] ∧ Mp Tryz.prog 43 w lg En Ck) :: E_ (en.val) :: (fun v w => OwE (fun q => X1 q ∧ q < w4.heap.size) w 0 100 2 RHeld v (heldL s.l K ++ heldX x i K ++ [(x.round, B)]) ∧ (v.ownBlock = en.val.ownBlock ∨ ∀ q, v.ownBlock = some q → w4.heap.size ≤ q)) :: E_ (.int .i64 (en.born : Int)) :: []) [(0, .pointer (some ⟨g, 0, none⟩)), (3, .pointer (some ⟨g3, 0, none⟩)), (5, .pointer (some ⟨g5, 0, none⟩)), (16, .slice al x.lets.length cl), (17, .int .i64 (x.lets.length : Int)), (18, .int .i64 (i : Int))] [] (sc rfl (sc rfl (sc rfl (sc rfl (sc rfl (sc rfl (Sub.nil))))))) (Sub.nil) (sc rfl (sc rfl (sc rfl (sc rfl (sc rfl (sc rfl (Sub.nil))))))) (by kernel_rfl) rfl rfl rfl (sN (sN (sN (sN (sN (sN (sN (sN (sN (sN (sM (fun _ _ _ h g => rByt.chg h (g.mono fun b ⟨_, _, _, q⟩ => hA0 _ _ q)) (sM (fun _ _ _ ⟨cs, e, h, q⟩ g => ⟨cs, e, rHeld.chg h (g.mono fun b ⟨_, _, _, q⟩ => hA0 _ _ q), q⟩) (sM (fun _ _ _ ⟨a, c, e, h⟩ g => ⟨a, c, e, Els.chg rHeld h (g.mono fun b ⟨_, _, _, q⟩ => hA0 _ _ q)⟩) (sM (fun _ _ _ h g => ⟨h.1, h.2.chg g (by
 rintro ⟨q, q1, q2, q3⟩
 rcases q3 with ⟨rfl, _⟩ | ⟨_, q4⟩
 exact q1 rfl
 exact (hrown _ q4).2.2 hZl)⟩) (sN (sM (fun _ _ _ h g => ⟨OwE.ext rHeld h.1 (FamPost.ext g (by
 rintro q b q1 q2 (⟨rfl, _⟩ | ⟨rfl, _⟩)
 exact dT_absurd q2 (by kernel_rfl)
 exact q1 rfl)), h.2⟩) (sN (trivial)))))))))))))))))) ?_ ?_
 refine And.intro ?_ ?_
 intro L_ wr hX_ hs_ hf_ hd_
 exact W.s1 (hs_ 0 _ rfl) (W.move rfl rfl (W.eF rfl))
 refine And.intro ?_ ?_
 intro L_ wr hX_ hs_ hf_ hd_
 obtain ⟨_, e0, rfl⟩ := hd_ 0 rfl
 exact W.s1 (e0 _ rfl) (W.nilCheck rfl rfl (W.eF rfl))
 refine And.intro ?_ ?_
 intro L_ wr hX_ hs_ hf_ hd_
 obtain ⟨_, e1, rfl⟩ := hd_ 1 rfl
 exact W.s1 (e1 _ rfl) (W.fieldB (off := 2) (size := 1) (t := 66) (Fld.of (by kernel_rfl)) rfl rfl rfl (W.eF rfl))
 refine And.intro ?_ ?_
 intro L_ wr hX_ hs_ hf_ hd_
 obtain ⟨_, e2, rfl⟩ := hd_ 2 rfl
 refine W.s1 (e2 _ rfl) ?_
 refine W.loadB (v := .map (some lg)) rfl Tryz.underlying66 rfl (hg4'.chg hX_ (by rintro ⟨_, _, _, q⟩; exact (hfam _ _ q).2 rfl)) rfl rfl ?_
 exact W.eF rfl
 refine And.intro ?_ ?_
 intro L_ wr hX_ hs_ hf_ hd_
 exact W.s1 (hs_ 5 _ rfl) (W.fieldB (off := 0) (size := 32) (t := 43) (Fld.of (by kernel_rfl)) rfl rfl rfl (W.eF rfl))
 refine And.intro ?_ ?_
 intro L_ wr hX_ hs_ hf_ hd_
 obtain ⟨_, e4, rfl⟩ := hd_ 4 rfl
 refine W.s1 (e4 _ rfl) ?_
 refine W.loadA (cs := K.map byteV) rfl (by
   have := Bk.cellsN (o := 0) (n := 32) (hB4.chg hX_ (by rintro ⟨_, _, _, q⟩; exact hg5n (hfam _ _ q).1))
   rwa [List.drop_zero, List.take_append_of_le_length (by rw [List.length_map, hKl]; exact Nat.le_refl _), List.take_of_length_le (by rw [List.length_map, hKl]; exact Nat.le_refl _)] at this) Tryz.underlying43 rfl (by rw [List.length_map, hKl]; kernel_rfl) rfl ?_
 exact W.eF rfl
 refine And.intro ?_ ?_
 intro L_ wr hX_ hs_ hf_ hd_
 exact W.s1 (hs_ 3 _ rfl) (W.fieldB (off := 0) (size := 1) (t := 3) (Fld.of (by kernel_rfl)) rfl rfl rfl (W.eF rfl))
 refine And.intro ?_ ?_
 intro L_ wr hX_ hs_ hf_ hd_
 obtain ⟨_, e6, rfl⟩ := hd_ 6 rfl
 refine W.s1 (e6 _ rfl) ?_
 refine W.loadB (v := .int .i64 x.round) rfl Tryz.underlying3 rfl (hB3d.chg hX_ (by rintro ⟨_, _, _, q⟩; exact hg3n (hfam _ _ q).1)) rfl rfl ?_
 exact W.eF rfl
 refine And.intro ?_ ?_
 intro L_ wr hX_ hs_ hf_ hd_
 exact W.s1 (hs_ 5 _ rfl) (W.fieldB (off := 32) (size := 1) (t := 22) (Fld.of (by kernel_rfl)) rfl rfl rfl (W.eF rfl))
 refine And.intro ?_ ?_
 intro L_ wr hX_ hs_ hf_ hd_
 obtain ⟨_, e8, rfl⟩ := hd_ 8 rfl
 refine W.s1 (e8 _ rfl) ?_
 refine W.loadB (v := .slice ab B.length cb) rfl Tryz.underlying22 rfl (hB4.chg hX_ (by rintro ⟨_, _, _, q⟩; exact hg5n (hfam _ _ q).1)) (by rw [List.getElem?_append_right (by rw [List.length_map, hKl]; exact Nat.le_refl _), List.length_map, hKl]; rfl) rfl ?_
 exact W.eF rfl
 refine And.intro ?_ ?_
 intro L_ wr hX_ hs_ hf_ hd_
 obtain ⟨_, e9, rfl⟩ := hd_ 9 rfl
 refine W.s1 (e9 _ rfl) ?_
 have hbsr : Bs wr ab cb B := Sl.chg hbs4 hX_ (by
   rintro ad e hne ⟨_, _, _, q⟩
   refine hbn ad e (fun e => hne (by rw [e]; rfl)) ?_
   rcases hF1' _ (hfam _ _ q).1 with h | h
   exact .inl h
   exact .inr (by omega))
 refine W.call Tryz.call54 rfl (Disk.cloneB_ok ab cb B _ hbsr (by omega)) rfl ?_
 rintro v33 w33 ⟨ho33, hX33⟩
 obtain ⟨a33, c33, rfl, hS33, hq33⟩ := ownsRow_form ho33
 refine W.nil ?_
 exact At.stepF (Fam.ofExt hX33) ⟨a33, c33, rfl, hS33, fun ad e _ hA => by have := hq33 ad e; have := Chg.size hX_; omega⟩
 refine And.intro ?_ ?_
 intro L_ wr hX_ hs_ hf_ hd_
 obtain ⟨_, e7, rfl⟩ := hd_ 7 rfl
 obtain ⟨v10, e10, r10⟩ := hd_ 10 rfl
 obtain ⟨a10, c10, rfl, hb10, hn10⟩ := RByt.form (show RByt (fun k => k < w4.heap.size) _ [_] B from r10)
 refine W.s2 (e7 _ rfl) (e10 _ rfl) ?_
 refine W.buildS (fs := _) [(0, 1), (1, 1)] [.int .i64 x.round, .slice a10 B.length c10] [(.int .i64 0), (.slice none 0 0)] Tryz.underlying100 (by kernel_rfl) (by kernel_rfl) rfl rfl rfl ?_
 refine W.nil ?_
 exact At.stepF (Fam.ofExt (Ext.refl _)) ⟨_, rfl, ⟨_, rfl, r10, hir⟩, rfl⟩
 refine And.intro ?_ ?_
 intro L_ wr hX_ hs_ hf_ hd_
 obtain ⟨v11, e11, r11⟩ := hd_ 11 rfl
 obtain ⟨cs11, rfl, hR11, hl11⟩ := r11
 refine W.s1 (e11 _ rfl) ?_
 refine W.litS cs11 EHeld Tryz.underlying98 rfl hl11 (by decide) rfl ?_
 intro g35 w35 hg35 hX35 ho35 hs35
 refine W.nil ?_
 exact At.stepF (Fam.ofExt hX35) ⟨_, _, rfl, Els.lit hs35 (rHeld.ext hR11 hX35) (by have := Chg.size hX_; omega)⟩
 refine And.intro ?_ ?_
 intro L_ wr hX_ hs_ hf_ hd_
 obtain ⟨_, e3, rfl⟩ := hd_ 3 rfl
 obtain ⟨_, e5, rfl⟩ := hd_ 5 rfl
 refine W.s2 (e3 _ rfl) (e5 _ rfl) ?_
 refine W.mapEntry lawK Tryz.underlying66 (z := .slice none 0 0) (by kernel_rfl) rfl rfl (hL4.mp.chg hX_ (by
   rintro ⟨q, q1, q2, q3⟩
   rcases q3 with ⟨rfl, _⟩ | ⟨_, q4⟩
   exact q1 rfl
   exact (hrown _ q4).2.2 hZl)) hlkK rfl ?_
 rintro E1 C1 w36 J1 e1 hC36 hM36 hj36 hk36 hd36
 obtain ⟨rfl, rfl, rfl, rfl⟩ := Pre.one hL4.mp ⟨hk36, hj36, hd36⟩ hp
 refine W.nil ?_
 exact At.stepF (Fam.of 13 (hC36.mono fun b hb => .inl ⟨rfl, hb⟩)) ⟨rfl, hM36⟩
 refine And.intro ?_ ?_
 intro L_ wr hX_ hs_ hf_ hd_
 obtain ⟨v13, e13, r13⟩ := hd_ 13 rfl
 obtain ⟨rfl, hM13⟩ := r13
 exact W.s1 (e13 _ rfl) (W.extract rfl rfl rfl (W.eF rfl))
 refine And.intro ?_ ?_
 intro L_ wr hX_ hs_ hf_ hd_
 obtain ⟨_, e14, rfl⟩ := hd_ 14 rfl
 obtain ⟨v12, e12, r12⟩ := hd_ 12 rfl
 obtain ⟨a12, c12, rfl, hE12⟩ := r12
 refine W.s2 (e14 _ rfl) (e12 _ rfl) ?_
 have hrow_ : OwE X1 wr 0 100 2 RHeld en.val (heldL s.l K ++ heldX x i K) := OwE.chgS rHeld hrow hX_ (by
   rintro k ⟨q, q1, q2, q3⟩
   rcases q3 with ⟨_, rfl⟩ | ⟨_, q4⟩
   exact hSt4.zx _ hZl
   exact (hrown _ q4).2.1) (by
   rintro k hk ⟨q, q1, q2, q3⟩
   rcases q3 with ⟨_, rfl⟩ | ⟨rfl, q4⟩
   exact (hrown _ hk).2.2 hZl
   exact q1 rfl)
 refine W.appendE (A := fun q => X1 q ∧ q < w4.heap.size) (ys := [(x.round, B)]) rHeld EHeld Tryz.underlying98 rfl rfl (OwE.new rHeld hrow_ fun k hk _ => .inl hk.1) (Els.new rHeld hE12 fun k hk _ => by
   rcases hk with hk | hk
   exact hk.2
   exact hF1lt _ (hrown _ hk).1) (by simpa using hfk) (by have := hfk; simp only [List.length_append, List.length_singleton] at this ⊢; omega) (Nat.zero_le _) rfl ?_
 intro v37 w37 ho37 hg37 hv37
 refine W.nil ?_
 exact At.stepF (Fam.of 15 ((Chg.of_grown hg37).mono fun b hb => .inr ⟨rfl, hb.symm⟩)) ⟨ho37, hv37.imp id (fun ⟨k, hk, hk'⟩ q hq => by rw [hk] at hq; obtain rfl := Option.some.inj hq; have := Chg.size hX_; omega)⟩
 refine And.intro ?_ ?_
 intro L_ wr hX_ hs_ hf_ hd_
 obtain ⟨v13, e13, r13⟩ := hd_ 13 rfl
 obtain ⟨rfl, hM13⟩ := r13
 exact W.s1 (e13 _ rfl) (W.extract rfl rfl rfl (W.eF rfl))
 exact trivial
 intro L_ wr hX5 hs_ hv_
 obtain ⟨v13, e13, r13⟩ := hv_ 13 (by decide)
 obtain ⟨rfl, hM13⟩ := r13
 obtain ⟨_, e3, rfl⟩ := hv_ 3 (by decide)
 obtain ⟨_, e16, rfl⟩ := hv_ 16 (by decide)
 obtain ⟨v15, e15, r15⟩ := hv_ 15 (by decide)
 refine W.weaken (l' := [(36, _), (25, _), (38, _), (37, _), (0, _), (3, _), (5, _), (16, _), (17, _), (18, _)]) (sc (e13 _ rfl) (sc (e3 _ rfl) (sc (e16 _ rfl) (sc (e15 _ rfl) (sc (hs_ _ _ rfl) (sc (hs_ _ _ rfl) (sc (hs_ _ _ rfl) (sc (hs_ _ _ rfl) (sc (hs_ _ _ rfl) (sc (hs_ _ _ rfl) (Sub.nil))))))))))) ?_
 refine W.entryStore rfl rfl rfl hM13 hp.get ?_
 intro wz hCz hMz
 rw [hp.key] at hMz
 have hsr := Chg.size hX5
 obtain ⟨ho15, hv15⟩ := r15
 have hCall : Chg (fun q => q = lg ∨ en.val.ownBlock = some q) w4 wz := (Chg.mono hX5 (by
   rintro k ⟨q, q1⟩
   rcases q1 with ⟨_, rfl⟩ | ⟨_, q4⟩
   exact .inl rfl
   exact .inr q4)).trans (hCz.mono fun k hk => .inl hk)
 have hoz : OwE (fun q => X1 q ∧ q < w4.heap.size) wz 0 100 2 RHeld v15 (heldL s.l K ++ heldX x (i + 1) K) := by
   have := OwE.chgS rHeld ho15 hCz (fun k hk => by subst hk; exact ⟨hSt4.zx _ hZl, hF1lt _ (hF1 _ hlF)⟩) (fun k hk hkl => by
     subst hkl
     rcases hv15 with h | h
     rw [h] at hk; exact (hrown _ hk).2.2 hZl
     have := h _ hk; have := hF1lt _ (hF1 _ hlF); omega)
   rwa [heldX_step hlti, if_pos hK.symm, ← List.append_assoc, ← hB]
 obtain ⟨X', hLz, hSz⟩ := LM.put (f' := fun name => heldL s.l name ++ heldX x (i + 1) name) hL4 hSt4 hZl hKl hp hMz hCall hoz hv15 (fun name hne => by
   show heldL s.l name ++ heldX x (i + 1) name = _
   rw [heldX_step hlti, if_neg (fun e => hne (by rw [hK, e])), List.append_nil])
 have hgz : Bk wz g (stC dg mg lg s.past o) := hg4.chg hCall (by
   rintro (h | h)
   exact h5.2.1 h
   exact (hrown _ h).2.2 hZg)
 have hAz : AM wz mg (s.l ++ [x]) (es1 ++ [⟨placeV x.round x.chain, .bool true, c1⟩]) (c1 + 1) := hA4.chg hCall (by
   rintro (h | h)
   exact h5.2.2 h
   exact (hrown _ h).2.2 hZm)
 have hs12 := hC1.size
 refine W.nil (At.blockNormal (At.thenCode (C.region ?_)))
 refine W.addI rfl rfl (by omega) rfl ?_
 refine W.move rfl rfl (W.nil ?_)
 refine At.thenRound (i + 1) (sc rfl (sc rfl (sc rfl (sc rfl (sc (look_eq rfl (iV (by omega))) (Sub.nil)))))) (show (i + 1) ≤ x.lets.length ∧ ∃ (F1 X1 : Nat → Prop) (e2 : List MapEntry) (k2 : Nat), (∀ k, F k → F1 k) ∧ (∀ k, F1 k → F k ∨ w2.heap.size ≤ k) ∧ Chg F w2 _ ∧ Bk _ g (stC dg mg lg s.past o) ∧ AM _ mg (s.l ++ [x]) (es1 ++ [⟨placeV x.round x.chain, .bool true, c1⟩]) (c1 + 1) ∧ LM _ F1 (Zof g mg lg) X1 lg (fun name => heldL s.l name ++ heldX x (i + 1) name) e2 k2 ∧ Sets _ F1 (Zof g mg lg) X1 from ?_) (show x.lets.length - (i + 1) < x.lets.length - i from ?_)
 refine ⟨by omega, Grown F1 w4 wz, X', _, _, fun k hk => .inl (hF1 k hk), fun k hk => ?_, ?_, hgz, hAz, hLz, hSz⟩
 rcases hk with hk | hk
 exact hF1' k hk
 exact .inr (by omega)
 refine hC1.news ((hX4.mono fun _ c => c.elim).trans hCall) fun k hk => ?_
 have : F1 k := by
   rcases hk with rfl | hk
   exact hF1 _ hlF
   exact (hrown _ hk).1
 exact hF1' k this
 omega
 obtain rfl : i = x.lets.length := by omega
 refine C.exit (At.thenExit (At.thenExit (At.blockSelf ?_)))
 refine At.end0 Tryz.results38 ?_
 refine ⟨F1, ⟨⟨mg, lg, X1, _, _, e2, k2, hg1, hA1, ?_, hSt1, h5⟩, hF1 _ hgF, hSt1.lt, ?_⟩, hF1, fun k hk => (hF1' k hk).imp id fun h => by omega, hC2'.trans hC1⟩
 have : heldL (takeS s x).l = fun name => heldL s.l name ++ heldX x x.lets.length name := by funext name; exact heldL_take s.l x name
 rw [this]; exact hL1
 refine ⟨fun y hy => ?_, hS.ok.2⟩
 rcases List.mem_append.1 hy with hy | hy
 exact hS.ok.1 y hy
 obtain rfl := List.mem_singleton.1 hy; exact ⟨hb.ok, hE0⟩
end Go.Proofs.YthiijdbiikljpaaGreat.Mbx
namespace Go.Proofs.YthiijdbiikljpaaGreat.KW
open Go Go.RowKit Go.ChangeShapes Go.WideShapes
set_option linter.unusedVariables false
section
variable {H : Type} {enc : TypeId × Value → H} {P : Program} {w : World} {base : Nat} {spare : Nat → Bool} {held : Bool}
theorem open_i {r : Reach} {b0 : Nat} {t : TypeId} {v : Value} {d : DataW H} {ps : List MemPlace} (ht : P.underlying t = some (.int .i64)) (hval : Value.okWide P w r b0 t v) (hd : DataW.Trod enc P w base spare held t v d ps) :
   ∃ a : Int, v = .int .i64 a ∧ -9223372036854775808 ≤ a ∧ a ≤ 9223372036854775807 := by
 obtain ⟨a, rfl, _, _, hw⟩ := open_int ht hval hd
 have h1 : IntKind.i64.min = -9223372036854775808 := by decide
 have h2 : IntKind.i64.max = 9223372036854775807 := by decide
 simp only [Lit.wf, h1, h2, Bool.and_eq_true, decide_eq_true_eq] at hw
 exact ⟨a, rfl, hw.1, hw.2⟩
end
section
variable {H : Type} {enc : TypeId × Value → H} {P : Program} {w : World} {base : Nat} {spare : Nat → Bool} {held : Bool}
theorem cells_bytes {t e : TypeId} {fuel : Nat} {cs : List Value} {x : DataW H × List MemPlace} (ht : P.underlying t = some (.slice e)) (he : P.underlying e = some (.int .u8)) (hc : P.cellsOf e = 1)
   (h : DataW.trod enc P w base spare held fuel t cs = some x) : ∃ ao c xs, cs = [.slice ao xs.length c] ∧ Bs w ao c xs ∧ c ≤ maxLen := by
 rcases open_ints ht he hc h with ⟨rfl, _⟩ | ⟨a, len, cap, zs, rfl, hb, hl, hm, hz, _, hcell, hwf⟩
 exact ⟨none, 0, [], rfl, Sl.none w 1, by decide⟩
 have hlz : len ≤ zs.length := by rw [hz]; split <;> omega
 have hlen : ((zs.take len).map fun n => UInt8.ofNat n.toNat).length = len := by simp; omega
 refine ⟨some a, cap, (zs.take len).map fun n => UInt8.ofNat n.toNat, by rw [hlen], ⟨by rw [hlen]; exact hl, by simp, (fun e => by cases e), ?_⟩, hm⟩
 intro ad e
 obtain rfl := Option.some.inj e
 intro j u hu
 rw [List.map_map, List.getElem?_map, List.getElem?_take] at hu
 split at hu
 rename_i hj
 obtain ⟨z, hzj, rfl⟩ := Option.map_eq_some_iff.1 hu
 have hj2 : j < zs.length := by omega
 rw [hcell j hj2]
 have hg : zs.getD j 0 = z := by simp [List.getD, hzj]
 rw [hg]
 have hw := hwf z (List.mem_of_getElem? hzj)
 have hb' : 0 ≤ z ∧ z ≤ 255 := by
   simp [Lit.wf, IntKind.min, IntKind.max, IntKind.signed, IntKind.bits] at hw
   exact hw
 simp only [Function.comp, byteV, UInt8.toNat_ofNat']
 rw [Nat.mod_eq_of_lt (by omega), Int.toNat_of_nonneg hb'.1]
 cases hu
theorem open_B {r : Reach} {b0 : Nat} {t e : TypeId} {v : Value} {d : DataW H} {ps : List MemPlace} (ht : P.underlying t = some (.slice e)) (he : P.underlying e = some (.int .u8)) (hc : P.cellsOf e = 1) (hval : Value.okWide P w r b0 t v) (hd : DataW.Trod enc P w base spare held t v d ps) :
   ∃ ao c xs, v = .slice ao xs.length c ∧ Bs w ao c xs ∧ xs.length ≤ 9223372036854775807 := by
 obtain ⟨a, len, cap, rfl⟩ := okWide_slice ht hval
 obtain ⟨fuel, hf⟩ := hd
 obtain ⟨ao, c, xs, hcs, hB, hm⟩ := cells_bytes ht he hc hf
 simp [Value.cells] at hcs
 obtain ⟨rfl, rfl, rfl⟩ := hcs
 exact ⟨_, _, xs, rfl, hB, Nat.le_trans hB.le hm⟩
theorem cells_nums {t e M : Nat} {k : IntKind} {fuel : Nat} {cs : List Value} {x : DataW H × List MemPlace} (hk : modOf k = M) (hM : Nat.blt 0 M = true) (ht : P.underlying t = some (.slice e)) (he : P.underlying e = some (.int k)) (hc : P.cellsOf e = 1)
   (h : DataW.trod enc P w base spare held fuel t cs = some x) : ∃ ao c, ∃ xs : List Nat, cs = [.slice ao xs.length c] ∧ Sl w ao xs.length c 1 (xs.map fun n : Nat => .int k (n : Int)) ∧ c ≤ maxLen ∧ ∀ x ∈ xs, x < M := by
 obtain ⟨p1, p2⟩ := pow_bits hk hM
 have p3 : ((2 : Int) ^ k.bits) = (M : Int) := by rw [← p1]; simp
 rcases open_ints ht he hc h with ⟨rfl, _⟩ | ⟨a, len, cap, zs, rfl, hb, hl, hm, hz, _, hcell, hwf⟩
 exact ⟨none, 0, [], rfl, Sl.none w 1, by decide, by simp⟩
 have hlz : len ≤ zs.length := by rw [hz]; split <;> omega
 have hlen : ((zs.take len).map Int.toNat).length = len := by simp; omega
 have hr : ∀ z ∈ zs, 0 ≤ z ∧ z < (M : Int) := by
   intro z hzm
   have hw := hwf z hzm
   simp only [Lit.wf, IntKind.min, IntKind.max, p2, Bool.false_eq_true, if_false, p3, Bool.and_eq_true, decide_eq_true_eq] at hw
   omega
 refine ⟨some a, cap, (zs.take len).map Int.toNat, by rw [hlen], ⟨by rw [hlen]; exact hl, by simp, (fun e => by cases e), ?_⟩, hm, ?_⟩
 intro ad e
 obtain rfl := Option.some.inj e
 intro j u hu
 rw [List.map_map, List.getElem?_map, List.getElem?_take] at hu
 split at hu
 rename_i hj
 obtain ⟨z, hzj, rfl⟩ := Option.map_eq_some_iff.1 hu
 have hj2 : j < zs.length := by omega
 rw [hcell j hj2]
 have hg : zs.getD j 0 = z := by simp [List.getD, hzj]
 rw [hg]
 have := hr z (List.mem_of_getElem? hzj)
 simp only [Function.comp]
 rw [Int.toNat_of_nonneg this.1]
 cases hu
 intro x hx
 obtain ⟨z, hz1, rfl⟩ := List.mem_map.1 hx
 have := hr z (List.mem_of_mem_take hz1)
 omega
theorem cells_ints {t e : Nat} {fuel : Nat} {cs : List Value} {x : DataW H × List MemPlace} (ht : P.underlying t = some (.slice e)) (he : P.underlying e = some (.int .i64)) (hc : P.cellsOf e = 1)
   (h : DataW.trod enc P w base spare held fuel t cs = some x) : ∃ ao c, ∃ xs : List Int, cs = [.slice ao xs.length c] ∧ Sl w ao xs.length c 1 (xs.map (.int .i64)) ∧ c ≤ maxLen ∧ ∀ x ∈ xs, -9223372036854775808 ≤ x ∧ x ≤ 9223372036854775807 := by
 rcases open_ints ht he hc h with ⟨rfl, _⟩ | ⟨a, len, cap, zs, rfl, hb, hl, hm, hz, _, hcell, hwf⟩
 exact ⟨none, 0, [], rfl, Sl.none w 1, by decide, by simp⟩
 have hlz : len ≤ zs.length := by rw [hz]; split <;> omega
 have hlen : (zs.take len).length = len := by simp; omega
 refine ⟨some a, cap, zs.take len, by rw [hlen], ⟨by rw [hlen]; exact hl, by simp, (fun e => by cases e), ?_⟩, hm, ?_⟩
 intro ad e
 obtain rfl := Option.some.inj e
 intro j u hu
 rw [List.getElem?_map, List.getElem?_take] at hu
 split at hu
 rename_i hj
 obtain ⟨z, hzj, rfl⟩ := Option.map_eq_some_iff.1 hu
 rw [hcell j (by omega)]
 simp [List.getD, hzj]
 cases hu
 intro x hx
 have hw := hwf x (List.mem_of_mem_take hx)
 have h1 : IntKind.i64.min = -9223372036854775808 := by decide
 have h2 : IntKind.i64.max = 9223372036854775807 := by decide
 simp only [Lit.wf, h1, h2, Bool.and_eq_true, decide_eq_true_eq] at hw
 exact hw
end
section
variable {H : Type} {enc : TypeId × Value → H} {P : Program} {w : World} {base : Nat} {spare : Nat → Bool} {held : Bool}
theorem cells_num {t M : Nat} {k : IntKind} {fuel : Nat} {cs : List Value} {x : DataW H × List MemPlace} (hk : modOf k = M) (hM : Nat.blt 0 M = true) (ht : P.underlying t = some (.int k)) (h : DataW.trod enc P w base spare held fuel t cs = some x) : ∃ n : Nat, cs = [.int k (n : Int)] ∧ n < M := by
 obtain ⟨a, rfl, _, hw⟩ := DataW.trod_int ht h
 obtain ⟨h1, h2⟩ := pow_bits hk hM
 have h3 : ((2 : Int) ^ k.bits) = (M : Int) := by rw [← h1]; simp
 simp only [Lit.wf, IntKind.min, IntKind.max, h2, Bool.false_eq_true, if_false, h3, Bool.and_eq_true, decide_eq_true_eq] at hw
 exact ⟨a.toNat, by rw [Int.toNat_of_nonneg hw.1], by omega⟩
theorem cells_int {t : Nat} {fuel : Nat} {cs : List Value} {x : DataW H × List MemPlace} (ht : P.underlying t = some (.int .i64)) (h : DataW.trod enc P w base spare held fuel t cs = some x) : ∃ a : Int, cs = [.int .i64 a] ∧ -9223372036854775808 ≤ a ∧ a ≤ 9223372036854775807 := by
 obtain ⟨a, rfl, _, hw⟩ := DataW.trod_int ht h
 have h1 : IntKind.i64.min = -9223372036854775808 := by decide
 have h2 : IntKind.i64.max = 9223372036854775807 := by decide
 simp only [Lit.wf, h1, h2, Bool.and_eq_true, decide_eq_true_eq] at hw
 exact ⟨a, rfl, hw.1, hw.2⟩
theorem cells_key {n t e fuel : Nat} {cs : List Value} {x : DataW H × List MemPlace} (ht : P.underlying t = some (.array n e)) (he : P.underlying e = some (.int .u8)) (hc : P.cellsOf e = 1) (hct : P.cellsOf t = n) (h : DataW.trod enc P w base spare held fuel t cs = some x) :
   ∃ key : List UInt8, cs = key.map byteV ∧ key.length = n := by
 obtain ⟨xs, m, _, _, hlen, hxl, hel⟩ := DataW.trod_array ht h
 have hcl : cs.length = n := by rw [hlen, hct]
 have each : ∀ i, i < n → ∃ b : UInt8, cs[i]? = some (byteV b) := by
   intro i hi
   have h1 := hel i hi
   rw [hc, Nat.mul_one, List.getElem?_eq_getElem (by omega)] at h1
   obtain ⟨z, hz, _, hw⟩ := DataW.trod_int he h1
   have hb : 0 ≤ z ∧ z ≤ 255 := by
     simp [Lit.wf, IntKind.min, IntKind.max, IntKind.signed, IntKind.bits] at hw
     exact hw
   have h2 : cs[i]? = some (.int .u8 z) := by
     have h3 : ((cs.drop i).take 1)[0]? = some (.int .u8 z) := by rw [hz]; rfl
     rw [List.getElem?_take, if_pos (by decide), List.getElem?_drop, Nat.add_zero] at h3
     exact h3
   refine ⟨UInt8.ofNat z.toNat, ?_⟩
   rw [h2, byteV, UInt8.toNat_ofNat', Nat.mod_eq_of_lt (by omega), Int.toNat_of_nonneg hb.1]
 obtain ⟨f, hf'⟩ := Go.Deep.choose_lt each
 refine ⟨(List.range n).map f, ?_, by simp⟩
 apply List.ext_getElem?
 intro i
 by_cases hi : i < n
 rw [hf' i hi]; simp [hi]
 rw [List.getElem?_eq_none (by omega), List.getElem?_eq_none (by simp; omega)]
theorem cells_els {α : Type} {R : RdT α} {t e sz fuel : Nat} {cs : List Value} {x : DataW H × List MemPlace} (ht : P.underlying t = some (.slice e)) (hc : P.cellsOf e = sz)
   (hO : ∀ {fuel : Nat} {cs : List Value} {x : DataW H × List MemPlace}, DataW.trod enc P w base spare held fuel e cs = some x → ∃ a, R (fun _ => False) w cs a)
   (h : DataW.trod enc P w base spare held fuel t cs = some x) : ∃ ao c, ∃ xs : List α, cs = [.slice ao xs.length c] ∧ Els (fun _ => False) w sz R ao c xs ∧ c ≤ 9223372036854775807 := by
 rcases DataW.trod_slice ht h with ⟨rfl, _⟩ | ⟨a, len, cap, elems, rest, n, _, rfl, _, hb, hl, hm, hlen, hel, _, _⟩
 exact ⟨none, 0, [], rfl, Els.nil _ _ _ _, by decide⟩
 have each : ∀ i, i < len → ∃ p : α × List Value, p.2.length = sz ∧ R (fun _ => False) w p.2 p.1 ∧ ∀ j, j < sz → w.cell? (a.add (i * sz + j)) = p.2[j]? := by
   intro i hi
   have h1 := hel i hi
   rw [List.getElem?_eq_getElem (by omega), hc, Option.bind_eq_some_iff] at h1
   obtain ⟨cs', h2, h3⟩ := h1
   obtain ⟨y, hy⟩ := hO h3
   obtain ⟨g1, g2, g3⟩ := World.cells?_some h2
   refine ⟨(y, cs'), g2, hy, fun j hj => ?_⟩
   have := g3 j hj
   rw [← add_add]
   exact this
 have hmx : maxLen ≤ 9223372036854775807 := by decide
 by_cases h0 : len = 0
 subst h0
 exact ⟨some a, cap, [], rfl, Els.empty _ _ _ _ _ _ (fun e => by cases e), by omega⟩
 obtain ⟨p0, _⟩ := each 0 (by omega)
 haveI : Inhabited (α × List Value) := ⟨p0⟩
 obtain ⟨f, hf⟩ := Go.Deep.choose_lt each
 obtain ⟨es, hes⟩ : ∃ es : List Value, es = (List.range len).flatMap fun i => (f i).2 := ⟨_, rfl⟩
 have hfl : ∀ m, m ≤ len → ((List.range m).flatMap fun i => (f i).2).length = m * sz := by
   intro m
   induction m with
   | zero => intro _; simp
   | succ m ih =>
     intro hm'
     rw [List.range_succ, List.flatMap_append, List.length_append, ih (by omega)]
     simp only [List.flatMap_cons, List.flatMap_nil, List.append_nil]
     rw [(hf m (by omega)).1, Nat.succ_mul]
 have hpart : ∀ m, m ≤ len → ∀ i, i < m → (((List.range m).flatMap fun i => (f i).2).drop (i * sz)).take sz = (f i).2 := by
   intro m
   induction m with
   | zero => intro _ i hi; omega
   | succ m ih =>
     intro hm' i hi
     rw [List.range_succ, List.flatMap_append]
     have hlm := hfl m (by omega)
     by_cases him : i < m
     rw [part_left hlm him]; exact ih (by omega) i him
     obtain rfl : i = m := by omega
     rw [part_right hlm (Nat.le_refl _), Nat.sub_self, Nat.zero_mul, List.drop_zero]
     simp only [List.flatMap_cons, List.flatMap_nil, List.append_nil]
     exact List.take_of_length_le (by rw [(hf i (by omega)).1]; exact Nat.le_refl _)
 have hesl : es.length = len * sz := by rw [hes]; exact hfl len (Nat.le_refl _)
 refine ⟨some a, cap, (List.range len).map fun i => (f i).1, by simp, ⟨es, ⟨by simpa using hl, by simpa using hesl, (fun e => by cases e), ?_⟩, fun _ _ _ h => h, ?_⟩, by omega⟩
 intro ad ead j u hu
 obtain rfl := Option.some.inj ead
 have hj : j < len * sz := by
   have := (List.getElem?_eq_some_iff.1 hu).1
   omega
 have hsz : 0 < sz := by
   rcases Nat.eq_zero_or_pos sz with h0 | h0
   rw [h0] at hj; simp at hj
   exact h0
 have hi : j / sz < len := Nat.div_lt_of_lt_mul (by rw [Nat.mul_comm]; exact hj)
 have hr : j % sz < sz := Nat.mod_lt _ hsz
 have hdj : j / sz * sz + j % sz = j := by rw [Nat.mul_comm]; exact Nat.div_add_mod j sz
 have h1 := (hf (j / sz) hi).2.2 (j % sz) hr
 rw [hdj] at h1
 rw [h1]
 have h2 := hpart len (Nat.le_refl _) (j / sz) hi
 rw [← hes] at h2
 rw [← h2, List.getElem?_take, if_pos hr, List.getElem?_drop, hdj]
 exact hu
 intro i hi
 simp at hi
 have h2 := hpart len (Nat.le_refl _) i hi
 rw [← hes] at h2
 rw [h2]
 simpa using (hf i hi).2.1
theorem Els.mono {α : Type} {R R' : RdT α} {A : Nat → Prop} {sz c : Nat} {a : Option Addr} {xs : List α} (h : Els A w sz R a c xs) (hr : ∀ cs x, R A w cs x → R' A w cs x) : Els A w sz R' a c xs := by
 obtain ⟨es, h1, h2, h3⟩ := h
 exact ⟨es, h1, h2, fun i hi => hr _ _ (h3 i hi)⟩
theorem Els.all {α : Type} {R : RdT α} {A : Nat → Prop} {sz c : Nat} {a : Option Addr} {xs : List α} (h : Els A w sz R a c xs) {Q : α → Prop} (hr : ∀ cs x, R A w cs x → Q x) : ∀ x ∈ xs, Q x := by
 obtain ⟨es, h1, h2, h3⟩ := h
 intro x hx
 obtain ⟨i, hi, rfl⟩ := List.getElem_of_mem hx
 exact hr _ _ (h3 i hi)
end
end Go.Proofs.YthiijdbiikljpaaGreat.KW
