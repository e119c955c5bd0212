/- The reference's Envelope and OpenEnvelope. -/
import Derived.Test.YtkjmllohbohliaaLet9
namespace Go.Proofs.Ytkjmllohbohliaa.Let
open Go Go.RowKit Go.Proofs.Ytkjmllohbohliaa.KW Go.Proofs.Ytkjmllohbohliaa.Words Go.Proofs.Ytkjmllohbohliaa.Sha Go.Proofs.Ytkjmllohbohliaa.RSha Go.Proofs.Ytkjmllohbohliaa.Derive Go.Proofs.Ytkjmllohbohliaa.Seal Go.Proofs.Ytkjmllohbohliaa.Grp Go.Proofs.Ytkjmllohbohliaa.Cod Go.Proofs.Ytkjmllohbohliaa.Modp
set_option linter.unusedVariables false
set_option linter.unusedSimpArgs false
set_option maxRecDepth 100000
/-- An append keeps each row of no more elements than its own had. -/
theorem Grew.small {e n m : Nat} {v v' : Value} {news : List Value} {w w' : World} (hg : Grew e 1 v v' n m news w w') (hl : news.length = m) : ∀ base v2 n2 zs, n2 ≤ n → w.ownsRow base e 1 v2 n2 zs → w'.ownsRow base e 1 v2 n2 zs := by
  intro base2 v2 n2 zs hn h2
  rcases hg with ⟨g, cap, cur, rfl, hg, hroom, hcs, rfl, rfl⟩ | ⟨hX, _⟩
  · refine ⟨h2.1, ?_⟩
    rcases h2.2 with ⟨rfl, h0⟩ | ⟨g2, cap2, cur2, rfl, hb2, hg2, hnc2, hcm2, hcs2, htake2⟩
    · exact .inl ⟨rfl, h0⟩
    · by_cases hgg : g2 = g
      · subst hgg
        rw [hg] at hg2
        injection hg2 with hg2
        injection hg2 with hg2
        subst hg2
        have hfit : n + m ≤ cur.size := by omega
        refine .inr ⟨g2, cap2, _, rfl, hb2, setRow_heap w g2 cur _ e _ hg, hnc2, hcm2, ?_, ?_⟩
        · rw [← hcs2]
          simp only [List.size_toArray, List.length_append, List.length_take, List.length_drop, Array.length_toList]
          omega
        · rw [← htake2]
          show List.take (n2 * 1) (cur.toList.take (n * 1) ++ news ++ cur.toList.drop (n * 1 + news.length)) = _
          rw [List.append_assoc, List.take_append_of_le_length (by rw [List.length_take, Array.length_toList]; omega), List.take_take]
          congr 1
          omega
      · exact .inr ⟨g2, cap2, cur2, rfl, hb2, (setRow_other w g g2 _ hgg).trans hg2, hnc2, hcm2, hcs2, htake2⟩
  · exact ownsRow_ext h2 hX
def GS (n0 e : Nat) (P : List Value) (a b : World) : Prop := GP n0 e 1 32 (fun _ => False) P a b ∧ ∀ base v n zs, n ≤ 32 → a.ownsRow base e 1 v n zs → b.ownsRow base e 1 v n zs
theorem GS.trans {n0 e : Nat} {P : List Value} (a b c : World) (h : GS n0 e P a b) (g : GS n0 e P b c) : GS n0 e P a c := ⟨GP.trans _ _ _ h.1 g.1, fun base v n zs hn ho => g.2 base v n zs hn (h.2 base v n zs hn ho)⟩
theorem GS.ext {n0 e : Nat} {P : List Value} (a b : World) (h : Ext a b) : GS n0 e P a b := ⟨GP.ext _ _ h, fun base v n zs hn ho => ownsRow_ext ho h⟩
theorem REnvelope_ok (x e : Nat) (k : List UInt8) (a : Option Addr) (c : Nat) (b : List UInt8) (w : World) (he : e < 18446744073709551616) (hk : k.length = 32) (hb : Bs w a c b) (hl : b.length ≤ 200000) :
    Ct Try.prog 24 #[.int .u64 (x : Int), .int .u64 (e : Int), .agg (letC k (.slice a b.length c)).toArray] w (fun v w' => Ow w' w.heap.size 5 v (envB x e k b) ∧ Ext w w') := by
  refine Ct.enter [(0, .int .u64 (x : Int)), (1, .int .u64 (e : Int)), (2, .agg (letC k (.slice a b.length c)).toArray)] Try.func24 rfl rfl rfl rfl ?_
  have hkl : (sealedV x e).length = 32 := keyD_length _ _
  have hkey : ∀ u, ((letC k u).drop 0).take 32 = k.map byteV := fun u => by unfold letC; rw [List.drop_zero, List.take_append_of_le_length (by simp [hk]), List.take_of_length_le (by simp [hk])]
  refine C.seq ?_
  refine C.region ?_
  refine W.box (letC k (.slice a b.length c)) rfl rfl rfl ?_
  intro g5 w5 hg5 hX5 hB5
  refine W.assign rfl rfl ?_
  refine W.nil ?_
  refine At.thenCode ?_
  refine C.seq ?_
  refine C.region ?_
  refine W.move rfl rfl ?_
  refine W.move rfl rfl ?_
  refine W.call Try.call39 rfl (Grp.RTimes_ok _ _ (by first | omega | decide) _) rfl ?_
  rintro v w' ⟨rfl, rfl⟩
  refine W.call Try.call48 rfl (Grp.RBytes_ok _ _) rfl ?_
  rintro v11 w11 ⟨hO11, hX11⟩
  obtain ⟨a11, c11, rfl, hS11, _⟩ := ownsRow_form hO11
  refine W.call Try.call52 rfl (Derive.RKey_ok _ _ _ innerS _ hS11 (by rw [be64_length]; decide) (by decide)) rfl ?_
  rintro v12 w12 ⟨rfl, hX12⟩
  refine W.alloc (z := .agg (List.replicate 32 (byteV 0)).toArray) (List.replicate 32 (byteV 0)) (by kernel_rfl) rfl rfl ?_
  intro g7 w7 hg7 hX7 hB7
  refine W.storeA ((sealedV x e).map byteV) rfl rfl hB7 (by rw [List.length_map, hkl]; rfl) (by rw [List.length_map, hkl]; kernel_rfl) (bytes_oneCell _) ?_
  intro wq hcq hBq
  have hs5 := hX5.size
  have hs11 := hX11.size
  have hs12 := hX12.size
  have hXq : Ext w wq := (((hX5.ext hX11).ext hX12).ext hX7).news hcq fun k hk => Or.inr (by omega)
  have hl5 := hB5.lt
  have hlq := hBq.lt
  have hB5q : Bk wq g5 (letC k (.slice a b.length c)) := (((hB5.ext hX11).ext hX12).ext hX7).chg hcq (by omega)
  have hlq5 := hB5q.lt
  refine W.nil ?_
  refine At.thenCode ?_
  refine C.seq ?_
  refine C.regionAnyG (GS wq.heap.size 5 ((k ++ b).map byteV)) (GS.trans) (GS.ext) 10 ((fun v w => v = .int .u64 (e : Int)) :: (fun v w => v = .int .u64 ((timesV 37 e : Nat) : Int)) :: (fun v w => Ow w wq.heap.size 5 v (be64 (timesV 37 e))) :: (fun v w => v = keyV (sealedV x e)) :: (fun v w => v = .pointer (some ⟨g5, 0, none⟩)) :: (fun v w => v = keyV k) :: (fun v w => Ow w wq.heap.size 5 v k) :: (fun v w => v = .pointer (some ⟨g5, 32, none⟩)) :: (fun v w => v = .slice a b.length c) :: (fun v w => Ow w wq.heap.size 5 v (k ++ b)) :: []) [(1, .int .u64 (e : Int)), (5, .pointer (some ⟨g5, 0, none⟩)), (7, .pointer (some ⟨g7, 0, none⟩))] [] (Sub.cons (rfl) (Sub.cons (rfl) (Sub.cons (rfl) (Sub.nil)))) (Sub.nil) (Sub.cons (rfl) (Sub.cons (rfl) (Sub.cons (rfl) (Sub.nil)))) (by kernel_rfl) rfl rfl rfl (And.intro (fun _ _ _ h _ => h) (And.intro (fun _ _ _ h _ => h) (And.intro (fun _ _ _ h g => g.2 _ _ _ _ (by rw [be64_length]; decide) h) (And.intro (fun _ _ _ h _ => h) (And.intro (fun _ _ _ h _ => h) (And.intro (fun _ _ _ h _ => h) (And.intro (fun _ _ _ h g => g.2 _ _ _ _ (by rw [hk]; decide) h) (And.intro (fun _ _ _ h _ => h) (And.intro (fun _ _ _ h _ => h) (And.intro (fun _ _ _ h g => GP.rowB g.1 h (List.prefix_refl _)) (trivial))))))))))) ?_ ?_
  · refine And.intro ?_ ?_
    · intro L_ wr hX_ hs_ hf_ hd_
      refine W.step [(1, _)] (Sub.cons (hs_ _ _ rfl) (Sub.refl _)) ?_
      refine W.move rfl rfl ?_
      refine W.nil ?_
      exact At.step ((GS.ext) _ _ (Ext.refl _)) rfl
    refine And.intro ?_ ?_
    · intro L_ wr hX_ hs_ hf_ hd_
      obtain ⟨v0, e0, r0⟩ := hd_ 0 rfl
      obtain rfl : (.int .u64 (e : Int) : Value) = v0 := Eq.symm r0
      refine W.step [(13, _)] (Sub.cons (e0 _ rfl) (Sub.refl _)) ?_
      refine W.call Try.call19 rfl (Grp.RBase_ok e he _) rfl ?_
      rintro v14 w14 ⟨rfl, rfl⟩
      refine W.nil ?_
      exact At.step ((GS.ext) _ _ (Ext.refl _)) rfl
    refine And.intro ?_ ?_
    · intro L_ wr hX_ hs_ hf_ hd_
      obtain ⟨v1, e1, r1⟩ := hd_ 1 rfl
      obtain rfl : (.int .u64 ((timesV 37 e : Nat) : Int) : Value) = v1 := Eq.symm r1
      refine W.step [(14, _)] (Sub.cons (e1 _ rfl) (Sub.refl _)) ?_
      refine W.call Try.call48 rfl (Grp.RBytes_ok _ _) rfl ?_
      rintro v15 w15 ⟨hO15, hX15⟩
      refine W.nil ?_
      exact At.step (GS.ext _ _ hX15) (ownsRow_base hO15 (hX_.1.size))
    refine And.intro ?_ ?_
    · intro L_ wr hX_ hs_ hf_ hd_
      refine W.step [(7, _)] (Sub.cons (hs_ _ _ rfl) (Sub.refl _)) ?_
      refine W.loadA rfl ((GP.bkOld hX_.1 hBq hlq (fun c => c)).cells (o := 0)) Try.underlying23 rfl (by rw [List.drop_zero, List.length_map, hkl]; kernel_rfl) rfl ?_
      rw [List.drop_zero]
      refine W.nil ?_
      exact At.step ((GS.ext) _ _ (Ext.refl _)) rfl
    refine And.intro ?_ ?_
    · intro L_ wr hX_ hs_ hf_ hd_
      refine W.step [(5, _)] (Sub.cons (hs_ _ _ rfl) (Sub.refl _)) ?_
      refine W.fieldB (off := 0) (size := 32) (t := 23) (Fld.of (by kernel_rfl)) rfl rfl rfl ?_
      refine W.nil ?_
      exact At.step ((GS.ext) _ _ (Ext.refl _)) rfl
    refine And.intro ?_ ?_
    · intro L_ wr hX_ hs_ hf_ hd_
      obtain ⟨v4, e4, r4⟩ := hd_ 4 rfl
      obtain rfl : (.pointer (some ⟨g5, 0, none⟩) : Value) = v4 := Eq.symm r4
      refine W.step [(17, _)] (Sub.cons (e4 _ rfl) (Sub.refl _)) ?_
      refine W.loadA (cs := k.map byteV) rfl (by have := Bk.cellsN (o := 0) (n := 32) (GP.bkOld hX_.1 hB5q hlq5 (fun c => c)); rwa [hkey] at this) Try.underlying23 rfl (by rw [List.length_map, hk]; kernel_rfl) rfl ?_
      refine W.nil ?_
      exact At.step ((GS.ext) _ _ (Ext.refl _)) rfl
    refine And.intro ?_ ?_
    · intro L_ wr hX_ hs_ hf_ hd_
      obtain ⟨v5, e5, r5⟩ := hd_ 5 rfl
      obtain rfl : (keyV k : Value) = v5 := Eq.symm r5
      refine W.step [(18, _)] (Sub.cons (e5 _ rfl) (Sub.refl _)) ?_
      refine W.call Try.call53 rfl (Let.bytes12_ok k hk _) rfl ?_
      rintro v19 w19 ⟨ho19, hX19⟩
      refine W.nil ?_
      exact At.step (GS.ext _ _ hX19) (ownsRow_base ho19 (hX_.1.size))
    refine And.intro ?_ ?_
    · intro L_ wr hX_ hs_ hf_ hd_
      refine W.step [(5, _)] (Sub.cons (hs_ _ _ rfl) (Sub.refl _)) ?_
      refine W.fieldB (off := 32) (size := 1) (t := 24) (Fld.of (by kernel_rfl)) rfl rfl rfl ?_
      refine W.nil ?_
      exact At.step ((GS.ext) _ _ (Ext.refl _)) rfl
    refine And.intro ?_ ?_
    · intro L_ wr hX_ hs_ hf_ hd_
      obtain ⟨v7, e7, r7⟩ := hd_ 7 rfl
      obtain rfl : (.pointer (some ⟨g5, 32, none⟩) : Value) = v7 := Eq.symm r7
      refine W.step [(20, _)] (Sub.cons (e7 _ rfl) (Sub.refl _)) ?_
      refine W.loadB (v := .slice a b.length c) rfl Try.underlying24 rfl (GP.bkOld hX_.1 hB5q hlq5 (fun c => c)) (letC_get hk _) rfl ?_
      refine W.nil ?_
      exact At.step ((GS.ext) _ _ (Ext.refl _)) rfl
    refine And.intro ?_ ?_
    · intro L_ wr hX_ hs_ hf_ hd_
      obtain ⟨v6, e6, r6⟩ := hd_ 6 rfl
      obtain ⟨v8, e8, r8⟩ := hd_ 8 rfl
      obtain rfl : (.slice a b.length c : Value) = v8 := Eq.symm r8
      refine W.step [(19, _), (21, _)] (Sub.cons (e6 _ rfl) (Sub.cons (e8 _ rfl) (Sub.refl _))) ?_
      refine W.appendGB (ys := b) E8 Try.underlying24 rfl rfl r6 ((hb.ext hXq).ext (GP.chg hX_.1 (Nat.le_refl _))) (by omega) hX_.1.size rfl ?_
      intro v22 w22 ho22 hg22
      refine W.nil ?_
      exact At.step ⟨GP.grewB hg22 r6 (List.prefix_refl _) (fun q hq => Or.inr ⟨(World.ownsRow.lt r6 q hq).1, by rw [hk]; omega⟩), fun base v n zs hn ho => Grew.small hg22 (by simp) base v n zs (by rw [hk]; exact hn) ho⟩ ho22
    exact trivial
  · intro L_ wr hX2 hs_ hv_
    obtain ⟨v3, e3, r3⟩ := hv_ 3 (by decide)
    obtain rfl : (keyV (sealedV x e) : Value) = v3 := Eq.symm r3
    obtain ⟨v9, e9, r9⟩ := hv_ 9 (by decide)
    obtain ⟨v2, e2, r2⟩ := hv_ 2 (by decide)
    refine W.weaken (l' := [(16, _), (22, _), (15, _), (1, _), (5, _), (7, _)]) (Sub.cons (e3 _ rfl) (Sub.cons (e9 _ rfl) (Sub.cons (e2 _ rfl) (Sub.cons (hs_ _ _ rfl) (Sub.cons (hs_ _ _ rfl) (Sub.cons (hs_ _ _ rfl) (Sub.nil))))))) ?_
    have hXr : Ext wq wr := GP.chg hX2.1 (Nat.le_refl _)
    obtain ⟨a22, c22, rfl, hS22, _⟩ := ownsRow_form r9
    refine W.call Try.call15 rfl (Seal.RSeal_ok (sealedV x e) none 0 [] a22 c22 (k ++ b) _ hkl (Sl.none _ _) hS22 (by simp) (by rw [List.length_append, hk]; omega)) rfl ?_
    rintro v23 w23 ⟨hO23, hX23⟩
    obtain ⟨a23, c23, rfl, hS23, _⟩ := ownsRow_form hO23
    refine W.appendB (ys := sealV (sealedV x e) [] (k ++ b)) E8 Try.underlying24 rfl rfl (ownsRow_ext r2 hX23) hS23 (by rw [be64_length, sealV_length, List.length_append, hk]; omega) (by have := hXr.size; have := hX23.size; omega) rfl ?_
    intro v24 w24 ho24 hg24 _
    refine W.assign rfl rfl ?_
    refine W.nil ?_
    refine At.thenCode ?_
    refine C.ret ?_
    refine At.ret1 Try.results24 rfl ?_
    have hsq := hXq.size
    have hsr := hXr.size
    refine ⟨ownsRow_base ho24 hsq, ((hXq.ext hXr).ext hX23).news (Chg.of_grown hg24) fun q hq => Or.inr ?_⟩
    have := (World.ownsRow.lt r2 q hq.symm).1
    omega
theorem set_byte {p : List UInt8} {i : Nat} (hi : i < 32) (hp : 32 ≤ p.length) (v : Value) : (letC (p.take i ++ List.replicate (32 - i) 0) v).set i (byteV (p[i]'(by omega))) = letC (p.take (i + 1) ++ List.replicate (32 - (i + 1)) 0) v := by
  unfold letC
  have h1 : (p.take i).length = i := by rw [List.length_take]; omega
  rw [List.set_append_left _ _ (by simp; omega), List.map_append, List.set_append_right _ _ (by simp; omega), List.length_map, h1, Nat.sub_self]
  have h2 : 32 - i = (32 - (i + 1)) + 1 := by omega
  rw [h2, List.replicate_succ, List.map_cons, List.set_cons_zero, List.take_succ_eq_append_getElem (by omega), List.map_append, List.map_append]
  simp
theorem ROpen_ok (s : Nat) (a : Option Addr) (c : Nat) (b : List UInt8) (w : World) (hs : s < 18446744073709551616) (hb : Bs w a c b) (hl : b.length ≤ 200000) :
    Ct Try.prog 26 #[.int .u64 (s : Int), .slice a b.length c] w (fun v w' => ∃ ao co, v = .tuple #[.agg (letC (oenK s b) (.slice ao (oenB s b).length co)).toArray, .bool (decide (OenOk s b))] ∧ Bs w' ao co (oenB s b) ∧ Ext w w') := by
  refine Ct.enter [(0, .int .u64 (s : Int)), (1, .slice a b.length c)] Try.func26 rfl rfl rfl rfl ?_
  obtain ⟨X, hX⟩ : ∃ X, X = getV b 0 8 := ⟨_, rfl⟩
  obtain ⟨T, hT⟩ : ∃ T, T = sealedV X s := ⟨_, rfl⟩
  have hTl : T.length = 32 := by rw [hT]; exact keyD_length _ _
  obtain ⟨p, hp⟩ : ∃ p, p = openV T [] (b.drop 8) := ⟨_, rfl⟩
  obtain ⟨q, hq⟩ : ∃ q, q = decide (openOk T [] (b.drop 8)) := ⟨_, rfl⟩
  have hpl : p.length ≤ b.length := by rw [hp]; have := openV_le T [] (b.drop 8); rw [List.length_drop] at this; omega
  have hpe : p = oenP s b := by rw [hp, hT, hX]; rfl
  have hOk : OenOk s b ↔ (getE b 0 8 = 0 ∧ Rt X) ∧ openOk T [] (b.drop 8) ∧ 32 ≤ p.length := by rw [hpe, hT, hX]; rfl
  refine C.seq ?_
  refine C.region ?_
  refine W.alloc (z := .agg zeroLetC.toArray) zeroLetC (by kernel_rfl) rfl rfl ?_
  intro g4 w4 hg4 hXz hB4
  refine W.assign rfl rfl ?_
  refine W.nil ?_
  refine At.thenCode ?_
  refine C.seq ?_
  refine C.region ?_
  refine W.move rfl rfl ?_
  refine W.call Try.call54 rfl (Words.RGet64_ok a c b 0 _ (hb.ext hXz) (by omega) (by omega)) rfl ?_
  rintro v15 w15 ⟨rfl, rfl⟩
  rw [← hX]
  refine W.move rfl rfl ?_
  refine W.extract rfl rfl rfl ?_
  refine W.extract rfl rfl rfl ?_
  refine W.assign rfl rfl ?_
  refine W.assign rfl rfl ?_
  refine W.nil ?_
  refine At.thenCode ?_
  refine C.seq ?_
  refine C.seq ?_
  refine C.region ?_
  refine W.move rfl rfl ?_
  refine W.neqI rfl rfl rfl ?_
  refine W.move rfl rfl ?_
  first | refine W.splitD (fun g20 => ?_) (fun g20 => ?_) | refine W.splitB (fun g20 => ?_) (fun g20 => ?_)
  · refine W.skips rfl rfl rfl rfl rfl rfl ?_
    refine W.skips rfl rfl rfl rfl rfl rfl ?_
    refine W.skips rfl rfl rfl rfl rfl rfl ?_
    refine W.pickT rfl rfl rfl ?_
    refine W.nil ?_
    refine At.thenCode ?_
    refine C.condT rfl ?_
    refine C.seq ?_
    refine C.region ?_
    refine W.buildS (fs := _) [(0, 32), (32, 1)] zeroLetC zeroLetC Try.underlying36 (by kernel_rfl) (by kernel_rfl) rfl rfl rfl ?_
    refine W.storeA zeroLetC rfl rfl hB4 rfl (by kernel_rfl) (letC_one _ _ _ _) ?_
    intro wy hcy hBy
    refine W.assign rfl rfl ?_
    refine W.nil ?_
    refine At.thenCode ?_
    refine C.ret ?_
    refine At.thenRet ?_
    -- RESULT IN A CELL
    have hno : ¬ OenOk s b := fun h => by have := (hOk.1 h).1.1; omega
    obtain ⟨e1, e2⟩ := oen_bad hno
    refine At.retCT Try.results26 rfl rfl (hBy.cells (o := 0)) Try.underlying36 rfl (by kernel_rfl) ?_
    rw [List.drop_zero, e1, e2, decide_eq_false hno]
    exact ⟨none, 0, rfl, Sl.none _ _, hXz.news hcy fun k hk => Or.inr (by omega)⟩
  · refine W.wants rfl rfl rfl rfl ?_
    refine W.move rfl rfl ?_
    refine W.wants rfl rfl rfl rfl ?_
    refine W.call Try.call55 rfl (Grp.RRight_ok _ _) rfl ?_
    rintro v w' ⟨rfl, rfl⟩
    refine W.wants rfl rfl rfl rfl ?_
    first | refine W.notD rfl rfl ?_ | refine W.notB rfl rfl ?_
    refine W.pickF rfl rfl rfl ?_
    refine W.nil ?_
    refine At.thenCode ?_
    first | refine C.condD rfl (fun c24 => ?_) (fun c24 => ?_) | refine C.cond rfl (fun c24 => ?_) (fun c24 => ?_)
    · refine C.seq ?_
      refine C.region ?_
      refine W.buildS (fs := _) [(0, 32), (32, 1)] zeroLetC zeroLetC Try.underlying36 (by kernel_rfl) (by kernel_rfl) rfl rfl rfl ?_
      refine W.storeA zeroLetC rfl rfl hB4 rfl (by kernel_rfl) (letC_one _ _ _ _) ?_
      intro wy hcy hBy
      refine W.assign rfl rfl ?_
      refine W.nil ?_
      refine At.thenCode ?_
      refine C.ret ?_
      refine At.thenRet ?_
      -- RESULT IN A CELL
      have hno : ¬ OenOk s b := fun h => by have h1 := (hOk.1 h).1.2; simp [h1] at c24
      obtain ⟨e1, e2⟩ := oen_bad hno
      refine At.retCT Try.results26 rfl rfl (hBy.cells (o := 0)) Try.underlying36 rfl (by kernel_rfl) ?_
      rw [List.drop_zero, e1, e2, decide_eq_false hno]
      exact ⟨none, 0, rfl, Sl.none _ _, hXz.news hcy fun k hk => Or.inr (by omega)⟩
    · have hE0 : getE b 0 8 = 0 := by omega
      have hRt : Rt X := by simpa using c24
      have hlen : 8 ≤ b.length := by have := getE_0.1 hE0; omega
      refine C.skip ?_
      refine At.thenCode ?_
      refine C.seq ?_
      refine C.region ?_
      refine W.move rfl rfl ?_
      refine W.move rfl rfl ?_
      refine W.call Try.call39 rfl (Grp.RTimes_ok _ _ (by first | omega | decide) _) rfl ?_
      rintro v w' ⟨rfl, rfl⟩
      refine W.call Try.call48 rfl (Grp.RBytes_ok _ _) rfl ?_
      rintro v29 w29 ⟨hO29, hX29⟩
      obtain ⟨a29, c29, rfl, hS29, _⟩ := ownsRow_form hO29
      refine W.call Try.call52 rfl (Derive.RKey_ok _ _ _ innerS _ hS29 (by rw [be64_length]; decide) (by decide)) rfl ?_
      rintro v30 w30 ⟨rfl, hX30⟩
      rw [show keyD (be64 (timesV X s)) innerS = T from hT.symm]
      refine W.alloc (z := .agg (List.replicate 32 (byteV 0)).toArray) (List.replicate 32 (byteV 0)) (by kernel_rfl) rfl rfl ?_
      intro g8 w8 hg8 hX8 hB8
      refine W.storeA (T.map byteV) rfl rfl hB8 (by rw [List.length_map, hTl]; rfl) (by rw [List.length_map, hTl]; kernel_rfl) (bytes_oneCell _) ?_
      intro w9 hc9 hB9
      have hl4 := hB4.lt
      have hs29 := hX29.size
      have hs30 := hX30.size
      have hX9 : Ext w4 w9 := ((hX29.ext hX30).ext hX8).news hc9 fun k hk => Or.inr (by omega)
      have hB4a : Bk w9 g4 zeroLetC := (((hB4.ext hX29).ext hX30).ext hX8).chg hc9 (by omega)
      refine W.nil ?_
      refine At.thenCode ?_
      refine C.seq ?_
      refine C.regionAny 9 ((fun v w => v = keyV T) :: (fun v w => v = .slice a b.length c) :: (fun v w => Rep w v (b.drop 8)) :: (fun v w => ∃ ao c', v = .tuple #[.slice ao p.length c', .bool q] ∧ Bs w ao c' p) :: (fun v w => ∃ ao c', v = .tuple #[.slice ao p.length c', .bool q] ∧ Bs w ao c' p) :: (fun v w => Rep w v p) :: (fun v w => v = .bool q) :: (fun v w => Rep w v p) :: (fun v w => v = .bool q) :: []) [(1, .slice a b.length c), (4, .pointer (some ⟨g4, 0, none⟩)), (8, .pointer (some ⟨g8, 0, none⟩))] [] (Sub.cons (rfl) (Sub.cons (rfl) (Sub.cons (rfl) (Sub.nil)))) (Sub.nil) (Sub.cons (rfl) (Sub.cons (rfl) (Sub.cons (rfl) (Sub.nil)))) (by kernel_rfl) rfl rfl rfl (And.intro (fun _ _ _ h _ => h) (And.intro (fun _ _ _ h _ => h) (And.intro (fun _ _ _ h g => Rep.ext h g) (And.intro (fun _ _ _ ⟨ao, c', e, h⟩ g => ⟨ao, c', e, Sl.ext h g⟩) (And.intro (fun _ _ _ ⟨ao, c', e, h⟩ g => ⟨ao, c', e, Sl.ext h g⟩) (And.intro (fun _ _ _ h g => Rep.ext h g) (And.intro (fun _ _ _ h _ => h) (And.intro (fun _ _ _ h g => Rep.ext h g) (And.intro (fun _ _ _ h _ => h) (trivial)))))))))) ?_ ?_
      · refine And.intro ?_ ?_
        · intro L_ wr hX_ hs_ hf_ hd_
          refine W.step [(8, _)] (Sub.cons (hs_ _ _ rfl) (Sub.refl _)) ?_
          refine W.loadA rfl ((hB9.ext hX_).cells (o := 0)) Try.underlying23 rfl (by rw [List.drop_zero, List.length_map, hTl]; kernel_rfl) rfl ?_
          rw [List.drop_zero]
          refine W.nil ?_
          exact At.step (Ext.refl _) rfl
        refine And.intro ?_ ?_
        · intro L_ wr hX_ hs_ hf_ hd_
          refine W.step [(1, _)] (Sub.cons (hs_ _ _ rfl) (Sub.refl _)) ?_
          refine W.move rfl rfl ?_
          refine W.nil ?_
          exact At.step (Ext.refl _) rfl
        refine And.intro ?_ ?_
        · intro L_ wr hX_ hs_ hf_ hd_
          obtain ⟨v1, e1, r1⟩ := hd_ 1 rfl
          obtain rfl : (.slice a b.length c : Value) = v1 := Eq.symm r1
          refine W.step [(33, _)] (Sub.cons (e1 _ rfl) (Sub.refl _)) ?_
          refine W.slice (lo := 8) (hi := b.length) E8 Try.underlying24 rfl (((hb.ext hXz).ext hX9).ext hX_) (.inr ⟨_, .i64, rfl, rfl⟩) (.inl ⟨rfl, rfl⟩) hlen (Nat.le_refl _) rfl ?_
          intro ao34 c34 hS34 _
          refine W.nil ?_
          exact At.step (Ext.refl _) ⟨ao34, c34, by rw [List.length_drop], Bs.from hS34⟩
        refine And.intro ?_ ?_
        · intro L_ wr hX_ hs_ hf_ hd_
          obtain ⟨v0, e0, r0⟩ := hd_ 0 rfl
          obtain rfl : (keyV T : Value) = v0 := Eq.symm r0
          obtain ⟨v2, e2, r2⟩ := hd_ 2 rfl
          obtain ⟨a4', c4', rfl, hb4⟩ := r2
          refine W.step [(32, _), (34, _)] (Sub.cons (e0 _ rfl) (Sub.cons (e2 _ rfl) (Sub.refl _))) ?_
          refine W.call Try.call16 rfl (Seal.ROpen_ok T none 0 [] a4' c4' (b.drop 8) wr hTl (Sl.none _ _) hb4 (by simp) (by rw [List.length_drop]; omega)) rfl ?_
          rintro v35 w35 ⟨⟨a35, c35, rfl, hS35, _⟩, hX35⟩
          rw [← hp] at hS35 ⊢
          rw [← hq]
          refine W.nil ?_
          exact At.step hX35 ⟨_, _, rfl, hS35⟩
        refine And.intro ?_ ?_
        · intro L_ wr hX_ hs_ hf_ hd_
          obtain ⟨v3, e3, r3⟩ := hd_ 3 rfl
          obtain ⟨a5, c5, rfl, hb5⟩ := r3
          refine W.step [(35, _)] (Sub.cons (e3 _ rfl) (Sub.refl _)) ?_
          refine W.move rfl rfl ?_
          refine W.nil ?_
          exact At.step (Ext.refl _) ⟨_, _, rfl, hb5⟩
        refine And.intro ?_ ?_
        · intro L_ wr hX_ hs_ hf_ hd_
          obtain ⟨v4, e4, r4⟩ := hd_ 4 rfl
          obtain ⟨a6, c6, rfl, hb6⟩ := r4
          refine W.step [(31, _)] (Sub.cons (e4 _ rfl) (Sub.refl _)) ?_
          refine W.extract rfl rfl rfl ?_
          refine W.nil ?_
          exact At.step (Ext.refl _) ⟨_, _, rfl, hb6⟩
        refine And.intro ?_ ?_
        · intro L_ wr hX_ hs_ hf_ hd_
          obtain ⟨v4, e4, r4⟩ := hd_ 4 rfl
          obtain ⟨a6, c6, rfl, hb6⟩ := r4
          refine W.step [(31, _)] (Sub.cons (e4 _ rfl) (Sub.refl _)) ?_
          refine W.extract rfl rfl rfl ?_
          refine W.nil ?_
          exact At.step (Ext.refl _) rfl
        refine And.intro ?_ ?_
        · intro L_ wr hX_ hs_ hf_ hd_
          obtain ⟨v5, e5, r5⟩ := hd_ 5 rfl
          obtain ⟨a7, c7, rfl, hb7⟩ := r5
          refine W.step [(36, _)] (Sub.cons (e5 _ rfl) (Sub.refl _)) ?_
          refine W.assign rfl rfl ?_
          refine W.nil ?_
          exact At.step (Ext.refl _) ⟨_, _, rfl, hb7⟩
        refine And.intro ?_ ?_
        · intro L_ wr hX_ hs_ hf_ hd_
          obtain ⟨v6, e6, r6⟩ := hd_ 6 rfl
          obtain rfl : (.bool q : Value) = v6 := Eq.symm r6
          refine W.step [(37, _)] (Sub.cons (e6 _ rfl) (Sub.refl _)) ?_
          refine W.assign rfl rfl ?_
          refine W.nil ?_
          exact At.step (Ext.refl _) rfl
        exact trivial
      · intro L_ wr hX5 hs_ hv_
        obtain ⟨v7, e7, r7⟩ := hv_ 7 (by decide)
        obtain ⟨a9, c9, rfl, hb9⟩ := r7
        obtain ⟨v8, e8, r8⟩ := hv_ 8 (by decide)
        obtain rfl : (.bool q : Value) = v8 := Eq.symm r8
        refine W.weaken (l' := [(9, _), (10, _), (1, _), (4, _), (8, _)]) (Sub.cons (e7 _ rfl) (Sub.cons (e8 _ rfl) (Sub.cons (hs_ _ _ rfl) (Sub.cons (hs_ _ _ rfl) (Sub.cons (hs_ _ _ rfl) (Sub.nil)))))) ?_
        refine W.nil ?_
        refine At.thenCode ?_
        refine C.seq ?_
        refine C.seq ?_
        refine C.region ?_
        refine W.move rfl rfl ?_
        first | refine W.notD rfl rfl ?_ | refine W.notB rfl rfl ?_
        refine W.move rfl rfl ?_
        first | refine W.splitD (fun g40 => ?_) (fun g40 => ?_) | refine W.splitB (fun g40 => ?_) (fun g40 => ?_)
        · refine W.skips rfl rfl rfl rfl rfl rfl ?_
          refine W.skips rfl rfl rfl rfl rfl rfl ?_
          refine W.skips rfl rfl rfl rfl rfl rfl ?_
          refine W.pickT rfl rfl rfl ?_
          refine W.nil ?_
          refine At.thenCode ?_
          refine C.condT rfl ?_
          refine C.seq ?_
          refine C.region ?_
          refine W.buildS (fs := _) [(0, 32), (32, 1)] zeroLetC zeroLetC Try.underlying36 (by kernel_rfl) (by kernel_rfl) rfl rfl rfl ?_
          refine W.storeA zeroLetC rfl rfl (hB4a.ext hX5) rfl (by kernel_rfl) (letC_one _ _ _ _) ?_
          intro wy hcy hBy
          refine W.assign rfl rfl ?_
          refine W.nil ?_
          refine At.thenCode ?_
          refine C.ret ?_
          refine At.thenRet ?_
          -- RESULT IN A CELL
          have hno : ¬ OenOk s b := fun h => by
            have h1 := (hOk.1 h).2.1
            have : q = false := by simpa using g40
            rw [hq] at this; exact of_decide_eq_false this h1
          obtain ⟨e1, e2⟩ := oen_bad hno
          refine At.retCT Try.results26 rfl rfl (hBy.cells (o := 0)) Try.underlying36 rfl (by kernel_rfl) ?_
          rw [List.drop_zero, e1, e2, decide_eq_false hno]
          exact ⟨none, 0, rfl, Sl.none _ _, ((hXz.ext hX9).ext hX5).news hcy fun k hk => Or.inr (by omega)⟩
        · refine W.wants rfl rfl rfl rfl ?_
          refine W.move rfl rfl ?_
          refine W.wants rfl rfl rfl rfl ?_
          refine W.lenS rfl Try.underlying24 rfl ?_
          refine W.wants rfl rfl rfl rfl ?_
          refine W.lssI rfl rfl rfl ?_
          refine W.pickF rfl rfl rfl ?_
          refine W.nil ?_
          refine At.thenCode ?_
          first | refine C.condD rfl (fun c44 => ?_) (fun c44 => ?_) | refine C.cond rfl (fun c44 => ?_) (fun c44 => ?_)
          · refine C.seq ?_
            refine C.region ?_
            refine W.buildS (fs := _) [(0, 32), (32, 1)] zeroLetC zeroLetC Try.underlying36 (by kernel_rfl) (by kernel_rfl) rfl rfl rfl ?_
            refine W.storeA zeroLetC rfl rfl (hB4a.ext hX5) rfl (by kernel_rfl) (letC_one _ _ _ _) ?_
            intro wy hcy hBy
            refine W.assign rfl rfl ?_
            refine W.nil ?_
            refine At.thenCode ?_
            refine C.ret ?_
            refine At.thenRet ?_
            -- RESULT IN A CELL
            have hno : ¬ OenOk s b := fun h => by have h1 := (hOk.1 h).2.2; omega
            obtain ⟨e1, e2⟩ := oen_bad hno
            refine At.retCT Try.results26 rfl rfl (hBy.cells (o := 0)) Try.underlying36 rfl (by kernel_rfl) ?_
            rw [List.drop_zero, e1, e2, decide_eq_false hno]
            exact ⟨none, 0, rfl, Sl.none _ _, ((hXz.ext hX9).ext hX5).news hcy fun k hk => Or.inr (by omega)⟩
          · have hp32 : 32 ≤ p.length := by omega
            have hopen : openOk T [] (b.drop 8) := by
              have : q = true := by simpa using g40
              rw [hq] at this; exact of_decide_eq_true this
            have hgood : OenOk s b := hOk.2 ⟨⟨hE0, hRt⟩, hopen, hp32⟩
            obtain ⟨hK, hB⟩ := oen_good hgood
            rw [← hpe] at hK hB
            have hKl := oenK_length s b
            refine C.skip ?_
            refine At.thenCode ?_
            refine C.seq ?_
            refine C.region ?_
            refine W.alloc (z := .agg zeroLetC.toArray) zeroLetC (by kernel_rfl) rfl rfl ?_
            intro g11 w11 hg11 hX11 hB11
            have hXr : Ext w4 w11 := (hX9.ext hX5).ext hX11
            have hB4b := (hB4a.ext hX5).ext hX11
            have hb9a := hb9.ext hX11
            have hl4b := hB4b.lt
            have hs5 := hX5.size
            have hs9 := hX9.size
            refine W.nil ?_
            refine At.thenCode ?_
            refine C.seq ?_
            refine C.seq ?_
            refine C.region ?_
            refine W.assign rfl rfl ?_
            refine W.nil ?_
            refine At.thenCode ?_
            refine C.block ?_
            refine C.loop (X := Nat) (fun x_ => [(4, .pointer (some ⟨g4, 0, none⟩)), (9, .slice a9 p.length c9), (11, .pointer (some ⟨g11, 0, none⟩)), (12, .int .i64 (x_ : Int))]) (fun x_ w1 => x_ ≤ 32 ∧ Chg (fun k => k = g11) w11 w1 ∧ Bk w1 g11 (letC (p.take x_ ++ List.replicate (32 - x_) 0) (.slice none 0 0))) (fun x_ => 32 - x_) (0) (Sub.cons (rfl) (Sub.cons (rfl) (Sub.cons (rfl) (Sub.cons (rfl) (Sub.nil))))) ?start1 ?_
            case start1 =>
              show (0) ≤ 32 ∧ Chg (fun k => k = g11) w11 _ ∧ Bk _ g11 (letC (p.take (0) ++ List.replicate (32 - (0)) 0) (.slice none 0 0))
              exact ⟨by omega, Chg.refl _ _, hB11⟩
            rintro i w1 hI_
            replace hI_ : i ≤ 32 ∧ Chg (fun k => k = g11) w11 w1 ∧ Bk w1 g11 (letC (p.take i ++ List.replicate (32 - i) 0) (.slice none 0 0)) := hI_
            obtain ⟨hi, hc1, hB1⟩ := hI_
            refine C.weaken (l' := [(4, .pointer (some ⟨g4, 0, none⟩)), (9, .slice a9 p.length c9), (11, .pointer (some ⟨g11, 0, none⟩)), (12, .int .i64 (i : Int))]) (Sub.cons (rfl) (Sub.cons (rfl) (Sub.cons (rfl) (Sub.cons (rfl) (Sub.nil))))) ?_
            refine C.seq ?_
            refine C.seq ?_
            refine C.region ?_
            refine W.move rfl rfl ?_
            refine W.lssI rfl rfl rfl ?_
            refine W.nil ?_
            refine At.thenCode ?_
            first | refine C.condD rfl (fun c47 => ?_) (fun c47 => ?_) | refine C.cond rfl (fun c47 => ?_) (fun c47 => ?_)
            · have hi32 : i < 32 := by omega
              refine C.skip ?_
              refine At.thenCode ?_
              refine C.seq ?_
              refine C.block ?_
              refine C.region ?_
              refine W.move rfl rfl ?_
              refine W.move rfl rfl ?_
              refine W.move rfl rfl ?_
              refine W.indexS (i := (i : Int)) E8 Try.underlying24 rfl (Sl.chg hb9a hc1 (fun ad e _ hk => by have := hb9.blk e (by intro h; have := congrArg List.length h; simp at this; rw [this] at hp32; simp at hp32); omega)) rfl ⟨by omega, by omega⟩ rfl ?_
              intro ad53 _ _ hcs53
              refine W.load (v := byteV (p[i]'(by omega))) rfl Try.underlying5 rfl (by have h := hcs53 0 (byteV (p[i]'(by omega))) (by rw [List.getElem?_drop, Nat.add_zero, Nat.mul_one, show ((i : Int).toNat) = i from rfl, List.getElem?_map, List.getElem?_eq_getElem (by omega)]; rfl); rwa [add_zero'] at h) rfl ?_
              refine W.fieldB (off := 0) (size := 32) (t := 23) (Fld.of (by kernel_rfl)) rfl rfl rfl ?_
              refine W.indexA (g := g11) (o := 0) i X8 Try.underlying23 rfl rfl rfl hi32 rfl ?_
              rw [Nat.zero_add, Nat.mul_one]
              refine W.store1 rfl rfl rfl hB1 (by rw [letC_length (by simp; omega)]; omega) (by kernel_rfl) ?_
              intro w2 hc2 hB2
              rw [set_byte hi32 hp32] at hB2
              refine W.nil ?_
              refine At.blockNormal ?_
              refine At.thenCode ?_
              refine C.region ?_
              refine W.move rfl rfl ?_
              first | refine W.addI rfl rfl (by omega) rfl ?_ | refine W.addW rfl rfl rfl ?_
              refine W.assign rfl rfl ?_
              refine W.nil ?_
              refine At.thenRound (i + 1) (Sub.cons (rfl) (Sub.cons (rfl) (Sub.cons (rfl) (Sub.cons (look_eq rfl (iV (by omega))) (Sub.nil))))) (show (i + 1) ≤ 32 ∧ Chg (fun k => k = g11) w11 _ ∧ Bk _ g11 (letC (p.take (i + 1) ++ List.replicate (32 - (i + 1)) 0) (.slice none 0 0)) from ?_) (show 32 - (i + 1) < 32 - i from ?_)
              · exact ⟨by omega, hc1.trans hc2, hB2⟩
              · omega
            · obtain rfl : i = 32 := by omega
              rw [show p.take 32 ++ List.replicate (32 - 32) 0 = p.take 32 from by simp] at hB1
              have hKl' : (p.take 32).length = 32 := by rw [← hK]; exact hKl
              have hb9b : Bs w1 a9 c9 p := Sl.chg hb9a hc1 (fun ad e _ hk => by have := hb9.blk e (by intro h; have := congrArg List.length h; simp at this; rw [this] at hp32; simp at hp32); omega)
              have hB4c := hB4b.chg hc1 (by omega)
              have hX1 : Ext w11 w1 ∨ True := Or.inr trivial
              have hXs : Ext w w1 := (hXz.ext hXr).news hc1 fun k hk => Or.inr (by have := hXz.size; omega)
              refine C.exit ?_
              refine At.thenExit ?_
              refine At.thenExit ?_
              refine At.blockSelf ?_
              refine At.thenCode ?_
              refine C.seq ?_
              refine C.region ?_
              refine W.move rfl rfl ?_
              refine W.slice (lo := 32) (hi := p.length) E8 Try.underlying24 rfl hb9b (.inr ⟨_, .i64, rfl, rfl⟩) (.inl ⟨rfl, rfl⟩) hp32 (Nat.le_refl _) rfl ?_
              intro ao58 c58 hS58 _
              have hS58' := Bs.from hS58
              refine W.appendB (ys := p.drop 32) (base := w1.heap.size) E8 Try.underlying24 rfl (look_eq rfl (by rw [List.length_drop])) (Ow.nil _ _ _) hS58' (by simp; omega) (Nat.le_refl _) rfl ?_
              rw [List.nil_append]
              intro v59 w59 ho59 hg59 _
              have hX59 : Ext w1 w59 := (Chg.of_grown hg59).mono fun k hk => by cases hk
              obtain ⟨a59, c59, rfl, hS59, hq59⟩ := ownsRow_form ho59
              refine W.fieldB (off := 32) (size := 1) (t := 24) (Fld.of (by kernel_rfl)) rfl rfl rfl ?_
              refine W.store1 rfl rfl rfl (hB1.ext hX59) (by rw [letC_length hKl']; decide) (by kernel_rfl) ?_
              intro w60 hc60 hB60
              have hB60 : Bk w60 g11 (letC (p.take 32) (.slice a59 (p.drop 32).length c59)) := by
                have := hB60
                rwa [← splice_one, splice_box hKl'] at this
              have hs59 := hX59.size
              have hl11 := hB11.lt
              have hs1 := hc1.size
              have hX60 : Ext w w60 := (hXs.ext hX59).news hc60 fun k hk => Or.inr (by have := hXz.size; have := hXr.size; have := hX11.size; omega)
              have hB4d := (hB4c.ext hX59).chg hc60 (by omega)
              have hS60 : Bs w60 a59 c59 (p.drop 32) := Sl.chg hS59 hc60 (fun ad e _ hk => by have := hq59 ad e; have := hB1.lt; omega)
              refine W.nil ?_
              refine At.thenCode ?_
              refine C.seq ?_
              refine C.region ?_
              refine W.loadA rfl (hB60.cells (o := 0)) Try.underlying36 rfl (by rw [List.drop_zero, letC_length hKl']; kernel_rfl) rfl ?_
              rw [List.drop_zero]
              refine W.storeA (letC (p.take 32) (.slice a59 (p.drop 32).length c59)) rfl rfl hB4d (by rw [letC_length hKl']; rfl) (by rw [letC_length hKl']; kernel_rfl) (letC_one _ _ _ _) ?_
              intro wz hcz hBz
              refine W.assign rfl rfl ?_
              refine W.nil ?_
              refine At.thenCode ?_
              refine C.ret ?_
              -- RESULT IN A CELL
              refine At.retCT Try.results26 rfl rfl (hBz.cells (o := 0)) Try.underlying36 rfl (by rw [List.drop_zero, letC_length hKl']; kernel_rfl) ?_
              rw [List.drop_zero, hK, hB, decide_eq_true hgood]
              refine ⟨a59, c59, rfl, Sl.chg hS60 hcz (fun ad e _ hk => ?_), hX60.news hcz fun k hk => Or.inr (by have := hXz.size; omega)⟩
              have := hq59 ad e
              have := hB4c.lt
              omega
end Go.Proofs.Ytkjmllohbohliaa.Let
